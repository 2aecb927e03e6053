/-
  Contracts of the generator's formulas: several arguments. The contract of the generator's formulas.
-/
import Derived.Test.YtmoahpojchndiaaGreatZL9
import Derived.Test.YtmoahpojchndiaaGreatZL22
import Derived.Test.YtmoahpojchndiaaGreatZL3
import Derived.Test.YtmoahpojchndiaaGreatZL19
import Derived.Test.YtmoahpojchndiaaGreatZL24
import Derived.Test.YtmoahpojchndiaaGreatZL26
import Derived.Laws.Concat
import Derived.Test.YtmoahpojchndiaaGreatZL10
import Derived.RangeFuncNested
import Derived.RangeFuncBound
import Derived.RangeFuncCalls
import Derived.RangeFuncLeaves
import Derived.RangeFuncBox
import Derived.Shelf.Abstract
import Derived.WalkKit
import Derived.OwnWalkIn
import Derived.TacticsInMore
import Derived.LoopNIn
import Derived.LoopIn
import Derived.Laws.EntriesVeiled
import Derived.Maps.OwnIn
import Derived.Test.YtmoahpojchndiaaGreatZL8
import Derived.Maps.Own
import Derived.Maps.Range
import Derived.Sort.KeysCollected
import Derived.Test.YtmoahpojchndiaaGreatZL23
set_option maxRecDepth 100000
namespace Go.Proofs.YtmoahpojchndiaaGreat
open Go.RowKit
abbrev mV (l:List Int):List (List Value):=l.map (fun k=>[.int .i64 k])
def ExprC (l:List RawD) (fs:List Fd) (d:Nat):Prop :=
 ∀ (g:Nat) (sl:Value) (n:Nat) (kind:Int) (fv:Value) (m:List Nat) (h:Vw),RS h 4 sl (l.map RawD.cs)→n + bnd d < 100000→1≤kind→kind≤3→IsFds ⟨h.w,m⟩ fv fs→g∈m →
  C1 Tryz.prog 79 #[.pointer (some ⟨g,0,none⟩),.int .i64 kind,fv,.int .i64 (d:Int)] h g [sl,.int .i64 (n:Int)]
   (fun v cs' h'=>∃ u,v=.agg #[.int .i64 ((gJ l fs d kind n).1).op,.int .i64 ((gJ l fs d kind n).1).k,.int .i64 ((gJ l fs d kind n).1).n,.string ((gJ l fs d kind n).1).s,.string ((gJ l fs d kind n).1).nm,.slice (sA u) (sN u) (sC u)]∧cs'=[sl,.int .i64 (((gJ l fs d kind n).2:Nat):Int)]∧IsArgs h' (gJ l fs d kind n).1 (.slice (sA u) (sN u) (sC u)))
theorem many_any (l:List RawD) (fs:List Fd) (d:Nat) (hd:d < 1000) (IH:ExprC l fs d) (g:Nat) (sl:Value) (n:Nat) (op:Int) (ks:List Int) (kv fv:Value) (b4 b6 b7:Nat) (m:List Nat) (h:Vw) (hr:RS h 4 sl (l.map RawD.cs)) (hn:n + 3 * bnd d < 100000) (hks:ks.length≤3)
  (hk1:∀ k∈ks,1≤k∧k≤3) (hkv:RS h 1 kv (mV ks)) (hf:IsFds ⟨h.w,m⟩ fv fs) (hg:g∈m) (f4:Cells h b4 0 [.pointer (some ⟨g,0,none⟩)]) (f6:Cells h b6 0 [fv]) (f7:Cells h b7 0 [.int .i64 ((d + 1:Nat):Int)]) :
  C1 Tryz.prog 115 #[.int .i64 op,kv,.pointer (some ⟨b4,0,none⟩),.pointer (some ⟨b6,0,none⟩),.pointer (some ⟨b7,0,none⟩)] h g [sl,.int .i64 (n:Int)]
   (fun v cs' h'=>∃ u,v=.agg #[.int .i64 (opE op (dJ (gJ l fs d) ks n).1).op,.int .i64 (opE op (dJ (gJ l fs d) ks n).1).k,.int .i64 (opE op (dJ (gJ l fs d) ks n).1).n,.string (opE op (dJ (gJ l fs d) ks n).1).s,.string (opE op (dJ (gJ l fs d) ks n).1).nm,.slice (sA u) (sN u) (sC u)]∧cs'=[sl,.int .i64 (((dJ (gJ l fs d) ks n).2:Nat):Int)]∧IsArgs h' (opE op (dJ (gJ l fs d) ks n).1) (.slice (sA u) (sN u) (sC u))):=by
 obtain ⟨A,cap,rfl,hc1,hc2,-⟩:=hkv.form
 rw [List.length_map] at hc1 hkv ⊢
 have hm:∀ b∈[g],b∈m:=fun b hb=>by simp at hb; rw [hb]; exact hg
 generalize hL:ks.length=len at *
 refine oQ Tryz.func115 (c:=Tryz.f115.body.getD .skip) (N:=32) ?_
 intro hbx hbad Q hQ
 refine pQ (f4.sees (Sees.refl _)) ?_
 refine pQ (f6.sees (Sees.refl _)) ?_
 refine pQ (f7.sees (Sees.refl _)) ?_
 refine zQ 54 6 ?_
 refine go2 22 [.own,.own,.b 0 0] [] ?_
 intro b1 b2
 refine wQ [0,1,0,1,1] [.block 0,.seq [1,1,1]] (fun (k:Nat) X=>∃ (W3:Vw) (v:Value) (vs:List Value),X W3 [(2,Vp b4),(3,Vp b6),(4,Vp b7),(7,Vp b1),(8,Vp b2),(13,.slice A len cap),(14,Vi (len:Int)),(15,Vi (k:Int))] [.box b2 [Vi op,Vi 0,Vi 0,Ve,Ve,v],.box b1 [Vi 0,Vi 0,Vi 0,Ve,Ve,Vz],.row v 54 6 (sK (dJ (gJ l fs d) (ks.take k) n).1 vs),.box g [sl,Vi (((dJ (gJ l fs d) (ks.take k) n).2:Nat):Int)]] [(b7,0,[Vi ((d + 1:Nat):Int)]),(b6,0,[fv]),(b4,0,[Vp g])]∧Sees h W3∧(k≤len)∧(AllArgs W3 (dJ (gJ l fs d) (ks.take k) n).1 vs)) (fun k=>len - k) (0) (fun X q=>⟨h,(Vz),[],q _ _ _ _ ⟨rfl,by kernel_rfl⟩,Sees.refl _,Nat.zero_le _,by unfold dJ AllArgs; rfl⟩) ?_
 rintro k a w ⟨W3,v,vs,hJ,S4,hk,hvs⟩; refine aV hJ ?_; clear hJ a w
 refine go0 6 [] [] ?_
 have hle:=manyE_le (genE_le l fs d) (ks.take k) n
 rcases (by omega:k < len∨len=k) with hlt | hke
 ·obtain ⟨kk,hkk⟩:∃ x,ks[k]?=some x:=⟨_,List.getElem?_eq_getElem (by omega)⟩
  have hki:(mV ks)[k]?=some [.int .i64 kk]:=by rw [List.getElem?_map,hkk]; rfl
  obtain ⟨q1,q2⟩:=hk1 kk (List.mem_of_getElem? hkk)
  have hms:=manyE_snoc (gJ l fs d) kk (ks.take k) n
  rw [← sY ks k kk hkk] at hms
  have hlt2:(ks.take k).length * bnd d≤2 * bnd d:=Nat.mul_le_mul_right _ (by rw [List.length_take]; omega)
  have hvl:=hvs.len
  have hxl:(dJ (gJ l fs d) (ks.take k) n).1.length≤k:=by
   have:∀ (one:Int→Nat→Ex × Nat) (l:List Int) (n:Nat),(dJ one l n).1.length=l.length:=by
    intro one l
    induction l with
    | nil=>intro n; rfl
    | cons x l ih=>intro n; show ((dJ one l (one x n).2).1.length + 1)=l.length + 1; rw [ih]
   rw [this,List.length_take]; omega
  generalize dJ (gJ l fs d) (ks.take k) n=p at *
  have hIH:=fun H m' hr' hf' hg'=>IH g sl p.2 kk fv m' H hr' (by omega) q1 q2 hf' hg'
  generalize gJ l fs d kk p.2=q at *
  have hrl:=tK hvl
  refine eV (t:=decide ((k:Int) < (len:Int))) (decide_eq_true (by omega)) ?_
  refine go0 6 [] [] ?_
  obtain ⟨b5,o6,rfl,-,c7⟩:=RS.row hkv (hki)
  refine pQ (c7.sees S4) ?_
  refine go0 5 [.ix b5 o6 len cap k,.f 0 0] [] ?_ (ho:=(And.intro (by first | omega | (simp; omega)) (trivial)))
  refine cV 12 0 [.pu,.ld 0 5,.lf 3 0,.pu,.lf 2 0,.lf 1 0,.v (fun gh=>Vi (d:Int)),.ef (fun gh=>.agg #[Vi q.1.op,Vi q.1.k,Vi q.1.n,.string q.1.s,.string q.1.nm,.slice (sA (gh 7)) (sN (gh 7)) (sC (gh 7))]) 3 (fun gh=>.box g [sl,Vi ((q.2:Nat):Int)]) (fun gh hh=>IsArgs hh q.1 (.slice (sA (gh 7)) (sN (gh 7)) (sC (gh 7)))),.f (fun gh=>.slice (some ⟨(vJ (gh 8)),0,none⟩) 1 1) (fun gh hh=>Cells hh (vJ (gh 8)) 0 [Vi q.1.op,Vi q.1.k,Vi q.1.n,.string q.1.s,.string q.1.nm,.slice (sA (gh 7)) (sN (gh 7)) (sC (gh 7))]),.e (fun gh=>.slice (sA (gh 9)) (sN (gh 9)) (sC (gh 9))) 2 (fun gh=>.row (.slice (sA (gh 9)) (sN (gh 9)) (sC (gh 9))) 54 6 ((sK (p).1 vs)++[[Vi q.1.op,Vi q.1.k,Vi q.1.n,.string q.1.s,.string q.1.nm,.slice (sA (gh 7)) (sN (gh 7)) (sC (gh 7))]])),.pu,.st 0 5] [(7,false),(8,true),(9,false)] (And.intro (fun _ _ _ s c=>c.sees s) (And.intro (fun _ _ _ s c=>c.sees s) (trivial))) ?_ ?_
  ·intro R hT hA hmono
   refine And.intro (t_eq hT hA (fun gh=>Vi (d:Int)) (fun gh=>Vi (IntKind.i64.wrap (((d + 1:Nat):Int) - 1))) (fun gh=>dec_wrap d (by omega))) ?_
   refine And.intro (r_call1 hT hA hmono ⟨fun _ _=>by kernel_rfl,fun _ _=>by kernel_rfl,fun _ _=>by kernel_rfl⟩ 26 (fun u=>.agg #[Vi q.1.op,Vi q.1.k,Vi q.1.n,.string q.1.s,.string q.1.nm,.slice (sA u) (sN u) (sC u)]) [2,3,4,6] 7 (by kernel_rfl) (fun _=>by kernel_rfl) 3 (GN R 3) (by kernel_rfl) (by kernel_rfl) (by kernel_rfl) g (fun gh=>[sl,Vi (((p).2:Nat):Int)]) (fun gh=>[sl,Vi ((q.2:Nat):Int)]) (fun _=>by kernel_rfl) (fun _=>by kernel_rfl) 79 (fun gh=>#[Vp g,Vi kk,fv,Vi (d:Int)]) (fun _ _=>by kernel_rfl) (fun gh H sH fH lent=>C1.facts (R:=R) (x:=gh) (N':=fun gh=>[sl,Vi ((q.2:Nat):Int)]) (i:=7) (n:=0) (F:=(fun u=>.agg #[Vi q.1.op,Vi q.1.k,Vi q.1.n,.string q.1.s,.string q.1.nm,.slice (sA u) (sN u) (sC u)])) (N:=fun u=>[sl,Vi ((q.2:Nat):Int)]) (G:=fun u hh=>IsArgs hh q.1 (.slice (sA u) (sN u) (sC u))) (f:=fun gh hh=>IsArgs hh q.1 (.slice (sA (gh 7)) (sN (gh 7)) (sC (gh 7)))) (by obtain ⟨m',hgm,sm⟩:=lent m hm; exact hIH H m' (hr.sees (S4.trans sH)) (hf.sees sm) hgm) (by kernel_rfl) (by kernel_rfl) (fun _=>by kernel_rfl) (fun _ _ r=>r))) ?_
   refine And.intro (r_fact hT hA hmono ⟨fun _ _=>by kernel_rfl,fun _ _=>by kernel_rfl,fun _ _=>by kernel_rfl⟩ 27 (fun g=>Vs g 1 1) [7] 8 (by kernel_rfl) (by kernel_rfl) (fun _=>by kernel_rfl) (fun gh=>[Vi q.1.op,Vi q.1.k,Vi q.1.n,.string q.1.s,.string q.1.nm,.slice (sA (gh 7)) (sN (gh 7)) (sC (gh 7))]) 54 (fun _ _=>by kernel_rfl) (fun gh zb zH zc zj zq zhq zhe=>own_fact (i:=8) (k:=1) (f:=fun gh hh=>Cells hh (vJ (gh 8)) 0 [Vi q.1.op,Vi q.1.k,Vi q.1.n,.string q.1.s,.string q.1.nm,.slice (sA (gh 7)) (sN (gh 7)) (sC (gh 7))]) (by kernel_rfl) (by kernel_rfl) zc zj zq zhq zhe)) ?_
   refine And.intro (r_append hT hA hmono ⟨fun _ _=>by kernel_rfl,fun _ _=>by kernel_rfl,fun _ _=>by kernel_rfl⟩ (by kernel_rfl) 28 [1,7,8] 9 (by kernel_rfl) (fun _=>by kernel_rfl) 2 (GN R 2) (by kernel_rfl) (by kernel_rfl) (by kernel_rfl) (fun gh=>v) 52 54 6 (fun gh=>sK (p).1 vs) (fun gh=>[[Vi q.1.op,Vi q.1.k,Vi q.1.n,.string q.1.s,.string q.1.nm,.slice (sA (gh 7)) (sN (gh 7)) (sC (gh 7))]]) (fun _=>by kernel_rfl) (fun _=>by kernel_rfl) (fun _ _=>by kernel_rfl) (.tmp 20) (.tmp 27) (by kernel_rfl) (by kernel_rfl) (fun gh=>(vJ (gh 8))) 1 1 (fun _=>by kernel_rfl) (fun _=>by kernel_rfl) 1 8 (fun gh hh=>Cells hh (vJ (gh 8)) 0 [Vi q.1.op,Vi q.1.k,Vi q.1.n,.string q.1.s,.string q.1.nm,.slice (sA (gh 7)) (sN (gh 7)) (sC (gh 7))]) (by kernel_rfl) (by kernel_rfl) (fun _ _ c=>c) Tryz.underlying52 (zv:=.agg #[Vi 0,Vi 0,Vi 0,Ve,Ve,Vz]) (bytes:=80) (by kernel_rfl) (by kernel_rfl) (fun _=>by kernel_rfl) (fun _=>by constructor <;> (rw [hrl]; omega))) ?_
   trivial
  rintro u26 b9 v28 W10 S11 ⟨f26,f8,-⟩
  replace f26:IsArgs W10 q.1 (.slice (sA u26) (sN u26) (sC u26)):=f26
  replace f8:Cells W10 b9 0 [Vi q.1.op,Vi q.1.k,Vi q.1.n,.string q.1.s,.string q.1.nm,.slice (sA u26) (sN u26) (sC u26)]:=f8
  refine pQ f8 ?_
  refine go0 6 [] [(30,Vi (IntKind.i64.wrap ((k:Int) + 1)),Vi ((k:Int) + 1))] ?_ (hc:=(And.intro (jJ (by omega) (by omega)) (trivial)))
  refine uQ [(2,Vp b4),(3,Vp b6),(4,Vp b7),(7,Vp b1),(8,Vp b2),(13,.slice (some ⟨b5,o6,none⟩) len cap),(14,Vi (len:Int)),(15,Vi ((k:Int) + 1))] [.box b2 [Vi op,Vi 0,Vi 0,Ve,Ve,.slice (sA v28) (sN v28) (sC v28)],.box b1 [Vi 0,Vi 0,Vi 0,Ve,Ve,Vz],.row (.slice (sA v28) (sN v28) (sC v28)) 54 6 ((sK (p).1 vs)++[[Vi q.1.op,Vi q.1.k,Vi q.1.n,.string q.1.s,.string q.1.nm,.slice (sA u26) (sN u26) (sC u26)]]),.box g [sl,Vi ((q.2:Nat):Int)]] [(b7,0,[Vi ((d + 1:Nat):Int)]),(b6,0,[fv]),(b4,0,[Vp g])] ?_
  exact dV (k + 1) (fun X q=>⟨W10,.slice (sA v28) (sN v28) (sC v28),vs++[.slice (sA u26) (sN u26) (sC u26)],q _ _ _ _ (fY (by rw [hms,exRows_snoc hvl])),(S4.trans S11),by omega,by rw [hms]; exact AllArgs.snoc f26 (hvs.sees S11)⟩) (by omega)
 ·skip
  have htk:ks.take k=ks:=by rw [← hke,← hL,List.take_length]
  rw [htk] at hvs ⊢
  refine g_form 2 (v:=v) (e:=54) (kk:=6) (l:=sK (dJ (gJ l fs d) ks n).1 vs) ?_; intro A2 c2 hE_v hc_v hm_v
  rw [hE_v]
  refine qQ (t:=decide ((k:Int) < (len:Int))) (decide_eq_false (by omega)) ?_
  refine go0 2 [] [] ?_
  refine vQ ?_
  refine go0 9 [.b 0 0,.b 1 0] [] ?_
  refine uQ [(7,Vp b1)] [.box b2 [Vi op,Vi 0,Vi 0,Ve,Ve,.slice A2 ((sK (dJ (gJ l fs d) ks n).1 vs).length) c2],.box b1 [Vi op,Vi 0,Vi 0,Ve,Ve,.slice A2 ((sK (dJ (gJ l fs d) ks n).1 vs).length) c2],.row (.slice A2 ((sK (dJ (gJ l fs d) ks n).1 vs).length) c2) 54 6 (sK (dJ (gJ l fs d) ks n).1 vs),.box g [sl,Vi (((dJ (gJ l fs d) ks n).2:Nat):Int)]] [(b7,0,[Vi ((d + 1:Nat):Int)]),(b6,0,[fv]),(b4,0,[Vp g])] ?_
  refine hQ.toJ [.agg #[Vi op,Vi 0,Vi 0,Ve,Ve,.slice A2 ((sK (dJ (gJ l fs d) ks n).1 vs).length) c2]] [[sl,Vi (((dJ (gJ l fs d) ks n).2:Nat):Int)]] (fun a w hJ=>?_) (ix:=[1])
  have fr:=hJ.j.rowOut1 (v:=.slice A2 ((sK (dJ (gJ l fs d) ks n).1 vs).length) c2) (e:=54) (k:=6) (l:=sK (dJ (gJ l fs d) ks n).1 vs) (g:=g) (cs:=[sl,Vi (((dJ (gJ l fs d) ks n).2:Nat):Int)]) 2 3 (by kernel_rfl) (by kernel_rfl) (by kernel_rfl) rfl
  exact ⟨_,rfl,.slice A2 (sK (dJ (gJ l fs d) ks n).1 vs).length c2,rfl,rfl,IsArgs.mk (x:=opE op (dJ (gJ l fs d) ks n).1) fr (hvs.sees hJ.j.out)⟩
end Go.Proofs.YtmoahpojchndiaaGreat
namespace Go.Proofs.YtmoahpojchndiaaGreat
open Go.RowKit
theorem genE_leaf {l:List RawD} {fs:List Fd} {d:Nat} {kind:Int} {n:Nat} (h:cJ (aJ l n).k 3=0):gJ l fs (d + 1) kind n=(sV (aJ l (bJ l n)) fs kind,bJ l (bJ l n)):=by
 show (if _ then _ else _)=_
 rw [if_pos h]
theorem fV {l:List RawD} {fs:List Fd} {d:Nat} {kind op:Int} {ks:List Int} {n:Nat} (h:cJ (aJ l n).k 3≠0) (hp:aX (aJ l n) kind=(op,ks)):gJ l fs (d + 1) kind n=(opE op (dJ (gJ l fs d) ks (bJ l n)).1,(dJ (gJ l fs d) ks (bJ l n)).2):=by
 show (if _ then _ else _)=_
 rw [if_neg h,hp]
theorem vX {h:Vw} {b:Nat} (ks:List Int) (hm:ks.length≤maxLen) (c:Cells h b 0 (mV ks).flatten):RS h 1 (.slice (some ⟨b,0,none⟩) ks.length ks.length) (mV ks):=by
 have:=rs_cells (k:=1) (mV ks) (fun r hr=>by obtain ⟨x,-,rfl⟩:=List.mem_map.1 hr; rfl) (by simpa using hm) c
 simpa using this
theorem uK {h:Vw} {sl:Value} {p q:Ex × Nat} (e:p=q) {u:Value} {v:Value} {cs:List Value} (hv:v=.agg #[.int .i64 q.1.op,.int .i64 q.1.k,.int .i64 q.1.n,.string q.1.s,.string q.1.nm,.slice (sA u) (sN u) (sC u)]) (hc:cs=[sl,.int .i64 ((q.2:Nat):Int)]) (ha:IsArgs h q.1 (.slice (sA u) (sN u) (sC u))) :
  ∃ cs',[cs]=[cs']∧∃ u,v=.agg #[.int .i64 p.1.op,.int .i64 p.1.k,.int .i64 p.1.n,.string p.1.s,.string p.1.nm,.slice (sA u) (sN u) (sC u)]∧cs'=[sl,.int .i64 ((p.2:Nat):Int)]∧IsArgs h p.1 (.slice (sA u) (sN u) (sC u)):=by
 subst e
 exact ⟨cs,rfl,u,hv,hc,ha⟩
theorem leaf_args (r:RawD) (fs:List Fd) (kind:Int):(sV r fs kind).args=[]:=by
 unfold sV
 repeat' split
 all_goals rfl
theorem expr_zero (l:List RawD) (fs:List Fd) (hlen:l.length * 40≤reachBytes) (hok:∀ r∈l,r.ok) (hfs:fs.length≤100):ExprC l fs 0:=by
 intro g sl n kind fv m h hr hn h1 h3 hf hg
 have hm:∀ b∈[g],b∈m:=fun b hb=>by simp at hb; rw [hb]; exact hg
 obtain ⟨A,nf,cap,rfl⟩:∃ A nf cap,fv=.slice A nf cap:=by obtain ⟨vs,hrs,-⟩:=hf; obtain ⟨A,c,e,-⟩:=hrs.form; exact ⟨A,_,c,e⟩
 have hat:=uJ l n
 have hb:bnd 0=2:=rfl
 refine oQ Tryz.func79 (c:=Tryz.f79.body.getD .skip) (N:=98) ?_
 intro hbx hbad Q hQ
 refine gov3 5 [.fix,.fix,.fix] [] ?_
 intro b1 b2 b3 W4 S5
 refine go1 6 [.own,.f 2 0] [] ?_
 intro b6
 refine g_call1 1 (fun H sH=>gV g l sl n _ (hr.sees (S5.trans sH)) (by omega) hlen) ?_; rintro _ _ W7 S8 ⟨rfl,rfl⟩
 refine go1 23 [.own,.b 0 0,.f 0 0,.f 2 0,.f 1 0] [(17,.bool (decide (((0:Nat):Int)≤0)),.bool true)] ?_ (hc:=(And.intro (rfl) (trivial)))
 intro b9
 refine mQ 2 (fun a w hJ=>leaf_any g l sl (bJ l n) kind fs _ _ _ (hr.sees (S5.trans (S8.trans hJ.j.sees))) (by omega) hlen hok h1 h3 (hf.sees (hJ.j.lent hm)) hfs (List.mem_append_right _ hg)) ?_; rintro _ _ W10 S11 ⟨rfl,rfl⟩
 refine go0 5 [.b 1 0] [] ?_
 refine hQ.toB [.agg #[Vi ((sV (aJ l (bJ l n)) fs kind).op),Vi ((sV (aJ l (bJ l n)) fs kind).k),Vi ((sV (aJ l (bJ l n)) fs kind).n),.string ((sV (aJ l (bJ l n)) fs kind).s),.string ((sV (aJ l (bJ l n)) fs kind).nm),Vz]] [[sl,Vi ((bJ l (bJ l n):Nat):Int)]] (fun H sH=>?_) (ix:=[1])
 exact uK (u:=Vz) (show gJ l fs 0 kind n=_ from rfl) rfl rfl (args_nil _ _ (leaf_args _ _ _))
set_option maxHeartbeats 4000000 in
theorem expr_succ (l : List RawD) (fs : List Fd) (hlen : l.length * 40 ≤ reachBytes) (hok : ∀ r ∈ l, r.ok) (hfs : fs.length ≤ 100) (d : Nat) (hd : d < 1000) (IH : ExprC l fs d) : ExprC l fs (d + 1) := by
  intro g sl n kind fv m h hr hn h1 h3 hf hg
  have hm : ∀ b ∈ [g], b ∈ m := fun b hb => by simp at hb; rw [hb]; exact hg
  obtain ⟨A, nf, cap, rfl⟩ : ∃ A nf cap, fv = .slice A nf cap := by obtain ⟨vs, hrs, -⟩ := hf; obtain ⟨A, c, e, -⟩ := hrs.form; exact ⟨A, _, c, e⟩
  have hat := uJ l n
  have hbd : bnd (d + 1) = 1 + 3 * bnd d := rfl
  have hb2 : 2 ≤ bnd d := by
    cases d with
    | zero => exact Nat.le_refl _
    | succ d => show 2 ≤ 1 + 3 * bnd d; have : 1 ≤ bnd d := by cases d with | zero => decide | succ d => show 1 ≤ 1 + _; omega
                omega
  obtain ⟨⟨k0, k1⟩, ⟨a0, a1⟩, ⟨rb0, rb1⟩, -⟩ := rawAt_ok hok n
  have hd0 : decide (((d + 1 : Nat) : Int) ≤ 0) = false := decide_eq_false (by omega)
  have many := many_any l fs d hd IH g sl (bJ l n)
  have hq7 := gX (aJ l n).b 7 (by omega)
  have hq3 := gX (aJ l n).a 3 (by omega)
  have pa3 := zJ (aJ l n).a 3
  have pb7 := zJ (aJ l n).b 7
  refine oQ Tryz.func79 (c := Tryz.f79.body.getD .skip) (N := 98) ?_
  intro hbx hbad Q hQ
  refine gov3 5 [.fix, .fix, .fix] [] ?_
  intro bf4 bf8 bf12 W1 S2
  refine nQ 2 bf4 0 [Vp g] fun f4 => ?_
  refine nQ 1 bf8 0 [.slice A nf cap] fun f8 => ?_
  refine nQ 0 bf12 0 [Vi ((d + 1 : Nat) : Int)] fun f12 => ?_
  refine go1 6 [.own, .f 2 0] [] ?_
  intro b3
  refine g_call1 1 (fun H sH => gV g l sl n _ (hr.sees (S2.trans sH)) (by omega) hlen) ?_; rintro _ _ W4 S5 ⟨rfl, rfl⟩
  refine go1 17 [.own, .b 0 0, .f 0 0, .b 0 0, .cl 19 #[Vi ((aJ l n).k), Vi 3] (Vi (cJ (aJ l n).k 3))] [(17, .bool (decide (((d + 1 : Nat) : Int) ≤ 0)), .bool false)] ?_ (ho := (And.intro (fun H sH => zJ _ 3 _ k0 k1 (by omega) (by omega)) (trivial))) (hc := (And.intro (congrArg Value.bool hd0) (trivial)))
  intro b6
  by_cases q3 : cJ (aJ l n).k 3 = 0
  · refine eV (t := (cJ (aJ l n).k 3) == 0) (beq_iff_eq.2 q3) ?_
    refine go0 5 [.f 2 0, .f 1 0] [] ?_
    refine mQ 2 (fun a w hJ => leaf_any g l sl (bJ l n) kind fs _ _ _ (hr.sees (S2.trans (S5.trans hJ.j.sees))) (by omega) hlen hok h1 h3 (hf.sees (hJ.j.lent hm)) hfs (List.mem_append_right _ hg)) ?_; rintro _ _ W7 S8 ⟨rfl, rfl⟩
    refine go0 5 [.b 1 0] [] ?_
    refine hQ.toB [.agg #[Vi ((sV (aJ l (bJ l n)) fs kind).op), Vi ((sV (aJ l (bJ l n)) fs kind).k), Vi ((sV (aJ l (bJ l n)) fs kind).n), .string ((sV (aJ l (bJ l n)) fs kind).s), .string ((sV (aJ l (bJ l n)) fs kind).nm), Vz]] [[sl, Vi ((bJ l (bJ l n) : Nat) : Int)]] (fun H sH => ?_) (ix := [1])
    exact uK (u := Vz) (genE_leaf q3) rfl rfl (args_nil _ _ (leaf_args _ _ _))
  · skip
    refine qQ (t := (cJ (aJ l n).k 3) == 0) (beq_eq_false_iff_ne.2 q3) ?_
    refine go0 17 [.b 0 1, .cl 19 #[Vi ((aJ l n).a), Vi 6] (Vi (cJ (aJ l n).a 6))] [] ?_ (ho := (And.intro (fun H sH => zJ _ 6 _ a0 a1 (by omega) (by omega)) (trivial)))
    obtain rfl | rfl | rfl : kind = 1 ∨ kind = 2 ∨ kind = 3 := by omega
    · skip
      by_cases q6 : cJ (aJ l n).a 6 = 0
      · refine eV (t := (cJ (aJ l n).a 6) == 0) (beq_iff_eq.2 q6) ?_
        refine kV 6 [.fix] [] ?_
        intro bfk W9 S10
        refine nQ 0 bfk 0 [Vi 2, Vi 1, Vi 1] fun fk => ?_
        refine mQ 2 (fun a w hJ => many 17 [2, 1, 1] _ _ _ _ _ _ _ (hr.sees (S2.trans (S5.trans (S10.trans hJ.j.sees)))) (by omega) (by simp) (by simp <;> omega) (vX [2, 1, 1] (by unfold maxLen; simp) (fk.sees hJ.j.sees)) (hf.sees (hJ.j.lent hm)) (List.mem_append_right _ hg) (f4.sees (S5.trans (S10.trans hJ.j.sees))) (f8.sees (S5.trans (S10.trans hJ.j.sees))) (f12.sees (S5.trans (S10.trans hJ.j.sees)))) ?_; rintro _ _ W11 S12 ⟨u, rfl, rfl, fu⟩
        refine go0 5 [.b 1 0] [] ?_
        refine hQ.toB [.agg #[Vi ((opE 17 (dJ (gJ l fs d) [2, 1, 1] (bJ l n)).1).op), Vi ((opE 17 (dJ (gJ l fs d) [2, 1, 1] (bJ l n)).1).k), Vi ((opE 17 (dJ (gJ l fs d) [2, 1, 1] (bJ l n)).1).n), .string ((opE 17 (dJ (gJ l fs d) [2, 1, 1] (bJ l n)).1).s), .string ((opE 17 (dJ (gJ l fs d) [2, 1, 1] (bJ l n)).1).nm), .slice (sA u) (sN u) (sC u)]] [[sl, Vi (((dJ (gJ l fs d) [2, 1, 1] (bJ l n)).2 : Nat) : Int)]] (fun H sH => ?_) (ix := [1])
        exact uK (fV q3 (by unfold aX; rw [if_pos q6])) rfl rfl (fu.sees sH)
      · skip
        obtain q7 | q7 | q7 | q7 | q7 | q7 | q7 : cJ (aJ l n).b 7 = 0 ∨ cJ (aJ l n).b 7 = 1 ∨ cJ (aJ l n).b 7 = 2 ∨ cJ (aJ l n).b 7 = 3 ∨ cJ (aJ l n).b 7 = 4 ∨ cJ (aJ l n).b 7 = 5 ∨ cJ (aJ l n).b 7 = 6 := by omega
        · skip
          rw [q7] at pb7
          refine qQ (t := (cJ (aJ l n).a 6) == 0) (beq_eq_false_iff_ne.2 q6) ?_
          refine kV 41 [.b 0 2, .cl 19 #[Vi ((aJ l n).b), Vi 7] (Vi 0), .fix] [] ?_ (ho := (And.intro (fun H sH => pb7 _ rb0 rb1 (by omega) (by omega)) (trivial)))
          intro bfk W13 S14
          refine nQ 0 bfk 0 [Vi 1] fun fk => ?_
          refine mQ 2 (fun a w hJ => many 3 [1] _ _ _ _ _ _ _ (hr.sees (S2.trans (S5.trans (S14.trans hJ.j.sees)))) (by omega) (by simp) (by simp <;> omega) (vX [1] (by unfold maxLen; simp) (fk.sees hJ.j.sees)) (hf.sees (hJ.j.lent hm)) (List.mem_append_right _ hg) (f4.sees (S5.trans (S14.trans hJ.j.sees))) (f8.sees (S5.trans (S14.trans hJ.j.sees))) (f12.sees (S5.trans (S14.trans hJ.j.sees)))) ?_; rintro _ _ W15 S16 ⟨u, rfl, rfl, fu⟩
          refine go0 7 [.b 1 0] [] ?_
          refine hQ.toB [.agg #[Vi ((opE 3 (dJ (gJ l fs d) [1] (bJ l n)).1).op), Vi ((opE 3 (dJ (gJ l fs d) [1] (bJ l n)).1).k), Vi ((opE 3 (dJ (gJ l fs d) [1] (bJ l n)).1).n), .string ((opE 3 (dJ (gJ l fs d) [1] (bJ l n)).1).s), .string ((opE 3 (dJ (gJ l fs d) [1] (bJ l n)).1).nm), .slice (sA u) (sN u) (sC u)]] [[sl, Vi (((dJ (gJ l fs d) [1] (bJ l n)).2 : Nat) : Int)]] (fun H sH => ?_) (ix := [1])
          exact uK (fV q3 (by unfold aX; rw [if_neg q6, q7]; rfl)) rfl rfl (fu.sees sH)
        · skip
          rw [q7] at pb7
          refine qQ (t := (cJ (aJ l n).a 6) == 0) (beq_eq_false_iff_ne.2 q6) ?_
          refine kV 48 [.b 0 2, .cl 19 #[Vi ((aJ l n).b), Vi 7] (Vi 1), .fix] [] ?_ (ho := (And.intro (fun H sH => pb7 _ rb0 rb1 (by omega) (by omega)) (trivial)))
          intro bfk W17 S18
          refine nQ 0 bfk 0 [Vi 3] fun fk => ?_
          refine mQ 2 (fun a w hJ => many 18 [3] _ _ _ _ _ _ _ (hr.sees (S2.trans (S5.trans (S18.trans hJ.j.sees)))) (by omega) (by simp) (by simp <;> omega) (vX [3] (by unfold maxLen; simp) (fk.sees hJ.j.sees)) (hf.sees (hJ.j.lent hm)) (List.mem_append_right _ hg) (f4.sees (S5.trans (S18.trans hJ.j.sees))) (f8.sees (S5.trans (S18.trans hJ.j.sees))) (f12.sees (S5.trans (S18.trans hJ.j.sees)))) ?_; rintro _ _ W19 S20 ⟨u, rfl, rfl, fu⟩
          refine go0 7 [.b 1 0] [] ?_
          refine hQ.toB [.agg #[Vi ((opE 18 (dJ (gJ l fs d) [3] (bJ l n)).1).op), Vi ((opE 18 (dJ (gJ l fs d) [3] (bJ l n)).1).k), Vi ((opE 18 (dJ (gJ l fs d) [3] (bJ l n)).1).n), .string ((opE 18 (dJ (gJ l fs d) [3] (bJ l n)).1).s), .string ((opE 18 (dJ (gJ l fs d) [3] (bJ l n)).1).nm), .slice (sA u) (sN u) (sC u)]] [[sl, Vi (((dJ (gJ l fs d) [3] (bJ l n)).2 : Nat) : Int)]] (fun H sH => ?_) (ix := [1])
          exact uK (fV q3 (by unfold aX; rw [if_neg q6, q7]; rfl)) rfl rfl (fu.sees sH)
        · skip
          rw [q7] at pb7
          refine qQ (t := (cJ (aJ l n).a 6) == 0) (beq_eq_false_iff_ne.2 q6) ?_
          refine gov2 53 [.b 0 2, .cl 19 #[Vi ((aJ l n).b), Vi 7] (Vi 2), .fix, .pu, .f 0 0, .fix] [] ?_ (ho := (And.intro (fun H sH => pb7 _ rb0 rb1 (by omega) (by omega)) (trivial)))
          intro b21 bfk W22 S23
          refine nQ 0 bfk 0 [Vi 1, Vi 1] fun fk => ?_
          refine mQ 2 (fun a w hJ => many 5 [1, 1] _ _ _ _ _ _ _ (hr.sees (S2.trans (S5.trans (S23.trans hJ.j.sees)))) (by omega) (by simp) (by simp <;> omega) (vX [1, 1] (by unfold maxLen; simp) (fk.sees hJ.j.sees)) (hf.sees (hJ.j.lent hm)) (List.mem_append_right _ hg) (f4.sees (S5.trans (S23.trans hJ.j.sees))) (f8.sees (S5.trans (S23.trans hJ.j.sees))) (f12.sees (S5.trans (S23.trans hJ.j.sees)))) ?_; rintro _ _ W24 S25 ⟨u, rfl, rfl, fu⟩
          refine go0 7 [.b 1 0] [] ?_
          refine hQ.toB [.agg #[Vi ((opE 5 (dJ (gJ l fs d) [1, 1] (bJ l n)).1).op), Vi ((opE 5 (dJ (gJ l fs d) [1, 1] (bJ l n)).1).k), Vi ((opE 5 (dJ (gJ l fs d) [1, 1] (bJ l n)).1).n), .string ((opE 5 (dJ (gJ l fs d) [1, 1] (bJ l n)).1).s), .string ((opE 5 (dJ (gJ l fs d) [1, 1] (bJ l n)).1).nm), .slice (sA u) (sN u) (sC u)]] [[sl, Vi (((dJ (gJ l fs d) [1, 1] (bJ l n)).2 : Nat) : Int)]] (fun H sH => ?_) (ix := [1])
          exact uK (fV q3 (by unfold aX; rw [if_neg q6, q7]; rfl)) rfl rfl (fu.sees sH)
        · skip
          rw [q7] at pb7
          refine qQ (t := (cJ (aJ l n).a 6) == 0) (beq_eq_false_iff_ne.2 q6) ?_
          refine gov2 53 [.b 0 2, .cl 19 #[Vi ((aJ l n).b), Vi 7] (Vi 3), .fix, .pu, .f 0 1, .fix] [] ?_ (ho := (And.intro (fun H sH => pb7 _ rb0 rb1 (by omega) (by omega)) (trivial)))
          intro b26 bfk W27 S28
          refine nQ 0 bfk 0 [Vi 1, Vi 1] fun fk => ?_
          refine mQ 2 (fun a w hJ => many 6 [1, 1] _ _ _ _ _ _ _ (hr.sees (S2.trans (S5.trans (S28.trans hJ.j.sees)))) (by omega) (by simp) (by simp <;> omega) (vX [1, 1] (by unfold maxLen; simp) (fk.sees hJ.j.sees)) (hf.sees (hJ.j.lent hm)) (List.mem_append_right _ hg) (f4.sees (S5.trans (S28.trans hJ.j.sees))) (f8.sees (S5.trans (S28.trans hJ.j.sees))) (f12.sees (S5.trans (S28.trans hJ.j.sees)))) ?_; rintro _ _ W29 S30 ⟨u, rfl, rfl, fu⟩
          refine go0 7 [.b 1 0] [] ?_
          refine hQ.toB [.agg #[Vi ((opE 6 (dJ (gJ l fs d) [1, 1] (bJ l n)).1).op), Vi ((opE 6 (dJ (gJ l fs d) [1, 1] (bJ l n)).1).k), Vi ((opE 6 (dJ (gJ l fs d) [1, 1] (bJ l n)).1).n), .string ((opE 6 (dJ (gJ l fs d) [1, 1] (bJ l n)).1).s), .string ((opE 6 (dJ (gJ l fs d) [1, 1] (bJ l n)).1).nm), .slice (sA u) (sN u) (sC u)]] [[sl, Vi (((dJ (gJ l fs d) [1, 1] (bJ l n)).2 : Nat) : Int)]] (fun H sH => ?_) (ix := [1])
          exact uK (fV q3 (by unfold aX; rw [if_neg q6, q7]; rfl)) rfl rfl (fu.sees sH)
        · skip
          rw [q7] at pb7
          refine qQ (t := (cJ (aJ l n).a 6) == 0) (beq_eq_false_iff_ne.2 q6) ?_
          refine gov2 53 [.b 0 2, .cl 19 #[Vi ((aJ l n).b), Vi 7] (Vi 4), .fix, .pu, .f 0 2, .fix] [] ?_ (ho := (And.intro (fun H sH => pb7 _ rb0 rb1 (by omega) (by omega)) (trivial)))
          intro b31 bfk W32 S33
          refine nQ 0 bfk 0 [Vi 1, Vi 1] fun fk => ?_
          refine mQ 2 (fun a w hJ => many 7 [1, 1] _ _ _ _ _ _ _ (hr.sees (S2.trans (S5.trans (S33.trans hJ.j.sees)))) (by omega) (by simp) (by simp <;> omega) (vX [1, 1] (by unfold maxLen; simp) (fk.sees hJ.j.sees)) (hf.sees (hJ.j.lent hm)) (List.mem_append_right _ hg) (f4.sees (S5.trans (S33.trans hJ.j.sees))) (f8.sees (S5.trans (S33.trans hJ.j.sees))) (f12.sees (S5.trans (S33.trans hJ.j.sees)))) ?_; rintro _ _ W34 S35 ⟨u, rfl, rfl, fu⟩
          refine go0 7 [.b 1 0] [] ?_
          refine hQ.toB [.agg #[Vi ((opE 7 (dJ (gJ l fs d) [1, 1] (bJ l n)).1).op), Vi ((opE 7 (dJ (gJ l fs d) [1, 1] (bJ l n)).1).k), Vi ((opE 7 (dJ (gJ l fs d) [1, 1] (bJ l n)).1).n), .string ((opE 7 (dJ (gJ l fs d) [1, 1] (bJ l n)).1).s), .string ((opE 7 (dJ (gJ l fs d) [1, 1] (bJ l n)).1).nm), .slice (sA u) (sN u) (sC u)]] [[sl, Vi (((dJ (gJ l fs d) [1, 1] (bJ l n)).2 : Nat) : Int)]] (fun H sH => ?_) (ix := [1])
          exact uK (fV q3 (by unfold aX; rw [if_neg q6, q7]; rfl)) rfl rfl (fu.sees sH)
        · skip
          rw [q7] at pb7
          refine qQ (t := (cJ (aJ l n).a 6) == 0) (beq_eq_false_iff_ne.2 q6) ?_
          refine gov2 53 [.b 0 2, .cl 19 #[Vi ((aJ l n).b), Vi 7] (Vi 5), .fix, .pu, .f 0 3, .fix] [] ?_ (ho := (And.intro (fun H sH => pb7 _ rb0 rb1 (by omega) (by omega)) (trivial)))
          intro b36 bfk W37 S38
          refine nQ 0 bfk 0 [Vi 1, Vi 1] fun fk => ?_
          refine mQ 2 (fun a w hJ => many 8 [1, 1] _ _ _ _ _ _ _ (hr.sees (S2.trans (S5.trans (S38.trans hJ.j.sees)))) (by omega) (by simp) (by simp <;> omega) (vX [1, 1] (by unfold maxLen; simp) (fk.sees hJ.j.sees)) (hf.sees (hJ.j.lent hm)) (List.mem_append_right _ hg) (f4.sees (S5.trans (S38.trans hJ.j.sees))) (f8.sees (S5.trans (S38.trans hJ.j.sees))) (f12.sees (S5.trans (S38.trans hJ.j.sees)))) ?_; rintro _ _ W39 S40 ⟨u, rfl, rfl, fu⟩
          refine go0 7 [.b 1 0] [] ?_
          refine hQ.toB [.agg #[Vi ((opE 8 (dJ (gJ l fs d) [1, 1] (bJ l n)).1).op), Vi ((opE 8 (dJ (gJ l fs d) [1, 1] (bJ l n)).1).k), Vi ((opE 8 (dJ (gJ l fs d) [1, 1] (bJ l n)).1).n), .string ((opE 8 (dJ (gJ l fs d) [1, 1] (bJ l n)).1).s), .string ((opE 8 (dJ (gJ l fs d) [1, 1] (bJ l n)).1).nm), .slice (sA u) (sN u) (sC u)]] [[sl, Vi (((dJ (gJ l fs d) [1, 1] (bJ l n)).2 : Nat) : Int)]] (fun H sH => ?_) (ix := [1])
          exact uK (fV q3 (by unfold aX; rw [if_neg q6, q7]; rfl)) rfl rfl (fu.sees sH)
        · skip
          rw [q7] at pb7
          refine qQ (t := (cJ (aJ l n).a 6) == 0) (beq_eq_false_iff_ne.2 q6) ?_
          refine gov2 53 [.b 0 2, .cl 19 #[Vi ((aJ l n).b), Vi 7] (Vi 6), .fix, .pu, .f 0 4, .fix] [] ?_ (ho := (And.intro (fun H sH => pb7 _ rb0 rb1 (by omega) (by omega)) (trivial)))
          intro b41 bfk W42 S43
          refine nQ 0 bfk 0 [Vi 1, Vi 1] fun fk => ?_
          refine mQ 2 (fun a w hJ => many 9 [1, 1] _ _ _ _ _ _ _ (hr.sees (S2.trans (S5.trans (S43.trans hJ.j.sees)))) (by omega) (by simp) (by simp <;> omega) (vX [1, 1] (by unfold maxLen; simp) (fk.sees hJ.j.sees)) (hf.sees (hJ.j.lent hm)) (List.mem_append_right _ hg) (f4.sees (S5.trans (S43.trans hJ.j.sees))) (f8.sees (S5.trans (S43.trans hJ.j.sees))) (f12.sees (S5.trans (S43.trans hJ.j.sees)))) ?_; rintro _ _ W44 S45 ⟨u, rfl, rfl, fu⟩
          refine go0 7 [.b 1 0] [] ?_
          refine hQ.toB [.agg #[Vi ((opE 9 (dJ (gJ l fs d) [1, 1] (bJ l n)).1).op), Vi ((opE 9 (dJ (gJ l fs d) [1, 1] (bJ l n)).1).k), Vi ((opE 9 (dJ (gJ l fs d) [1, 1] (bJ l n)).1).n), .string ((opE 9 (dJ (gJ l fs d) [1, 1] (bJ l n)).1).s), .string ((opE 9 (dJ (gJ l fs d) [1, 1] (bJ l n)).1).nm), .slice (sA u) (sN u) (sC u)]] [[sl, Vi (((dJ (gJ l fs d) [1, 1] (bJ l n)).2 : Nat) : Int)]] (fun H sH => ?_) (ix := [1])
          exact uK (fV q3 (by unfold aX; rw [if_neg q6, q7]; rfl)) rfl rfl (fu.sees sH)
    · skip
      by_cases q6 : cJ (aJ l n).a 6 = 0
      · refine eV (t := (cJ (aJ l n).a 6) == 0) (beq_iff_eq.2 q6) ?_
        refine kV 6 [.fix] [] ?_
        intro bfk W46 S47
        refine nQ 0 bfk 0 [Vi 2, Vi 2, Vi 2] fun fk => ?_
        refine mQ 2 (fun a w hJ => many 17 [2, 2, 2] _ _ _ _ _ _ _ (hr.sees (S2.trans (S5.trans (S47.trans hJ.j.sees)))) (by omega) (by simp) (by simp <;> omega) (vX [2, 2, 2] (by unfold maxLen; simp) (fk.sees hJ.j.sees)) (hf.sees (hJ.j.lent hm)) (List.mem_append_right _ hg) (f4.sees (S5.trans (S47.trans hJ.j.sees))) (f8.sees (S5.trans (S47.trans hJ.j.sees))) (f12.sees (S5.trans (S47.trans hJ.j.sees)))) ?_; rintro _ _ W48 S49 ⟨u, rfl, rfl, fu⟩
        refine go0 5 [.b 1 0] [] ?_
        refine hQ.toB [.agg #[Vi ((opE 17 (dJ (gJ l fs d) [2, 2, 2] (bJ l n)).1).op), Vi ((opE 17 (dJ (gJ l fs d) [2, 2, 2] (bJ l n)).1).k), Vi ((opE 17 (dJ (gJ l fs d) [2, 2, 2] (bJ l n)).1).n), .string ((opE 17 (dJ (gJ l fs d) [2, 2, 2] (bJ l n)).1).s), .string ((opE 17 (dJ (gJ l fs d) [2, 2, 2] (bJ l n)).1).nm), .slice (sA u) (sN u) (sC u)]] [[sl, Vi (((dJ (gJ l fs d) [2, 2, 2] (bJ l n)).2 : Nat) : Int)]] (fun H sH => ?_) (ix := [1])
        exact uK (fV q3 (by unfold aX; rw [if_pos q6])) rfl rfl (fu.sees sH)
      · skip
        obtain q7 | q7 | q7 | q7 | q7 | q7 | q7 : cJ (aJ l n).b 7 = 0 ∨ cJ (aJ l n).b 7 = 1 ∨ cJ (aJ l n).b 7 = 2 ∨ cJ (aJ l n).b 7 = 3 ∨ cJ (aJ l n).b 7 = 4 ∨ cJ (aJ l n).b 7 = 5 ∨ cJ (aJ l n).b 7 = 6 := by omega
        · skip
          rw [q7] at pb7
          refine qQ (t := (cJ (aJ l n).a 6) == 0) (beq_eq_false_iff_ne.2 q6) ?_
          refine kV 44 [.b 0 2, .cl 19 #[Vi ((aJ l n).b), Vi 7] (Vi 0), .fix] [] ?_ (ho := (And.intro (fun H sH => pb7 _ rb0 rb1 (by omega) (by omega)) (trivial)))
          intro bfk W50 S51
          refine nQ 0 bfk 0 [Vi 2] fun fk => ?_
          refine mQ 2 (fun a w hJ => many 4 [2] _ _ _ _ _ _ _ (hr.sees (S2.trans (S5.trans (S51.trans hJ.j.sees)))) (by omega) (by simp) (by simp <;> omega) (vX [2] (by unfold maxLen; simp) (fk.sees hJ.j.sees)) (hf.sees (hJ.j.lent hm)) (List.mem_append_right _ hg) (f4.sees (S5.trans (S51.trans hJ.j.sees))) (f8.sees (S5.trans (S51.trans hJ.j.sees))) (f12.sees (S5.trans (S51.trans hJ.j.sees)))) ?_; rintro _ _ W52 S53 ⟨u, rfl, rfl, fu⟩
          refine go0 7 [.b 1 0] [] ?_
          refine hQ.toB [.agg #[Vi ((opE 4 (dJ (gJ l fs d) [2] (bJ l n)).1).op), Vi ((opE 4 (dJ (gJ l fs d) [2] (bJ l n)).1).k), Vi ((opE 4 (dJ (gJ l fs d) [2] (bJ l n)).1).n), .string ((opE 4 (dJ (gJ l fs d) [2] (bJ l n)).1).s), .string ((opE 4 (dJ (gJ l fs d) [2] (bJ l n)).1).nm), .slice (sA u) (sN u) (sC u)]] [[sl, Vi (((dJ (gJ l fs d) [2] (bJ l n)).2 : Nat) : Int)]] (fun H sH => ?_) (ix := [1])
          exact uK (fV q3 (by unfold aX; rw [if_neg q6, q7]; rfl)) rfl rfl (fu.sees sH)
        · skip
          rw [q7] at pb7
          refine qQ (t := (cJ (aJ l n).a 6) == 0) (beq_eq_false_iff_ne.2 q6) ?_
          refine kV 55 [.b 0 2, .cl 19 #[Vi ((aJ l n).b), Vi 7] (Vi 1), .fix] [] ?_ (ho := (And.intro (fun H sH => pb7 _ rb0 rb1 (by omega) (by omega)) (trivial)))
          intro bfk W54 S55
          refine nQ 0 bfk 0 [Vi 2, Vi 2] fun fk => ?_
          refine mQ 2 (fun a w hJ => many 15 [2, 2] _ _ _ _ _ _ _ (hr.sees (S2.trans (S5.trans (S55.trans hJ.j.sees)))) (by omega) (by simp) (by simp <;> omega) (vX [2, 2] (by unfold maxLen; simp) (fk.sees hJ.j.sees)) (hf.sees (hJ.j.lent hm)) (List.mem_append_right _ hg) (f4.sees (S5.trans (S55.trans hJ.j.sees))) (f8.sees (S5.trans (S55.trans hJ.j.sees))) (f12.sees (S5.trans (S55.trans hJ.j.sees)))) ?_; rintro _ _ W56 S57 ⟨u, rfl, rfl, fu⟩
          refine go0 7 [.b 1 0] [] ?_
          refine hQ.toB [.agg #[Vi ((opE 15 (dJ (gJ l fs d) [2, 2] (bJ l n)).1).op), Vi ((opE 15 (dJ (gJ l fs d) [2, 2] (bJ l n)).1).k), Vi ((opE 15 (dJ (gJ l fs d) [2, 2] (bJ l n)).1).n), .string ((opE 15 (dJ (gJ l fs d) [2, 2] (bJ l n)).1).s), .string ((opE 15 (dJ (gJ l fs d) [2, 2] (bJ l n)).1).nm), .slice (sA u) (sN u) (sC u)]] [[sl, Vi (((dJ (gJ l fs d) [2, 2] (bJ l n)).2 : Nat) : Int)]] (fun H sH => ?_) (ix := [1])
          exact uK (fV q3 (by unfold aX; rw [if_neg q6, q7]; rfl)) rfl rfl (fu.sees sH)
        · skip
          rw [q7] at pb7
          refine qQ (t := (cJ (aJ l n).a 6) == 0) (beq_eq_false_iff_ne.2 q6) ?_
          refine kV 55 [.b 0 2, .cl 19 #[Vi ((aJ l n).b), Vi 7] (Vi 2), .fix] [] ?_ (ho := (And.intro (fun H sH => pb7 _ rb0 rb1 (by omega) (by omega)) (trivial)))
          intro bfk W58 S59
          refine nQ 0 bfk 0 [Vi 2, Vi 2] fun fk => ?_
          refine mQ 2 (fun a w hJ => many 16 [2, 2] _ _ _ _ _ _ _ (hr.sees (S2.trans (S5.trans (S59.trans hJ.j.sees)))) (by omega) (by simp) (by simp <;> omega) (vX [2, 2] (by unfold maxLen; simp) (fk.sees hJ.j.sees)) (hf.sees (hJ.j.lent hm)) (List.mem_append_right _ hg) (f4.sees (S5.trans (S59.trans hJ.j.sees))) (f8.sees (S5.trans (S59.trans hJ.j.sees))) (f12.sees (S5.trans (S59.trans hJ.j.sees)))) ?_; rintro _ _ W60 S61 ⟨u, rfl, rfl, fu⟩
          refine go0 7 [.b 1 0] [] ?_
          refine hQ.toB [.agg #[Vi ((opE 16 (dJ (gJ l fs d) [2, 2] (bJ l n)).1).op), Vi ((opE 16 (dJ (gJ l fs d) [2, 2] (bJ l n)).1).k), Vi ((opE 16 (dJ (gJ l fs d) [2, 2] (bJ l n)).1).n), .string ((opE 16 (dJ (gJ l fs d) [2, 2] (bJ l n)).1).s), .string ((opE 16 (dJ (gJ l fs d) [2, 2] (bJ l n)).1).nm), .slice (sA u) (sN u) (sC u)]] [[sl, Vi (((dJ (gJ l fs d) [2, 2] (bJ l n)).2 : Nat) : Int)]] (fun H sH => ?_) (ix := [1])
          exact uK (fV q3 (by unfold aX; rw [if_neg q6, q7]; rfl)) rfl rfl (fu.sees sH)
        · skip
          rw [q7] at pb7
          obtain q4 | q4 | q4 : cJ (aJ l n).a 3 = 0 ∨ cJ (aJ l n).a 3 = 1 ∨ cJ (aJ l n).a 3 = 2 := by omega
          · skip
            rw [q4] at pa3
            refine qQ (t := (cJ (aJ l n).a 6) == 0) (beq_eq_false_iff_ne.2 q6) ?_
            refine kV 66 [.b 0 2, .cl 19 #[Vi ((aJ l n).b), Vi 7] (Vi 3), .b 0 1, .cl 19 #[Vi ((aJ l n).a), Vi 3] (Vi 0), .fix] [] ?_ (ho := (And.intro (fun H sH => pb7 _ rb0 rb1 (by omega) (by omega)) (And.intro (fun H sH => pa3 _ a0 a1 (by omega) (by omega)) (trivial))))
            intro bfk W62 S63
            refine nQ 0 bfk 0 [Vi 1, Vi 1] fun fk => ?_
            refine mQ 2 (fun a w hJ => many 11 [1, 1] _ _ _ _ _ _ _ (hr.sees (S2.trans (S5.trans (S63.trans hJ.j.sees)))) (by omega) (by simp) (by simp <;> omega) (vX [1, 1] (by unfold maxLen; simp) (fk.sees hJ.j.sees)) (hf.sees (hJ.j.lent hm)) (List.mem_append_right _ hg) (f4.sees (S5.trans (S63.trans hJ.j.sees))) (f8.sees (S5.trans (S63.trans hJ.j.sees))) (f12.sees (S5.trans (S63.trans hJ.j.sees)))) ?_; rintro _ _ W64 S65 ⟨u, rfl, rfl, fu⟩
            refine go0 7 [.b 1 0] [] ?_
            refine hQ.toB [.agg #[Vi ((opE 11 (dJ (gJ l fs d) [1, 1] (bJ l n)).1).op), Vi ((opE 11 (dJ (gJ l fs d) [1, 1] (bJ l n)).1).k), Vi ((opE 11 (dJ (gJ l fs d) [1, 1] (bJ l n)).1).n), .string ((opE 11 (dJ (gJ l fs d) [1, 1] (bJ l n)).1).s), .string ((opE 11 (dJ (gJ l fs d) [1, 1] (bJ l n)).1).nm), .slice (sA u) (sN u) (sC u)]] [[sl, Vi (((dJ (gJ l fs d) [1, 1] (bJ l n)).2 : Nat) : Int)]] (fun H sH => ?_) (ix := [1])
            exact uK (fV q3 (by unfold aX; rw [if_neg q6, q7, q4]; rfl)) rfl rfl (fu.sees sH)
          · skip
            rw [q4] at pa3
            refine qQ (t := (cJ (aJ l n).a 6) == 0) (beq_eq_false_iff_ne.2 q6) ?_
            refine kV 66 [.b 0 2, .cl 19 #[Vi ((aJ l n).b), Vi 7] (Vi 3), .b 0 1, .cl 19 #[Vi ((aJ l n).a), Vi 3] (Vi 1), .fix] [] ?_ (ho := (And.intro (fun H sH => pb7 _ rb0 rb1 (by omega) (by omega)) (And.intro (fun H sH => pa3 _ a0 a1 (by omega) (by omega)) (trivial))))
            intro bfk W66 S67
            refine nQ 0 bfk 0 [Vi 2, Vi 2] fun fk => ?_
            refine mQ 2 (fun a w hJ => many 11 [2, 2] _ _ _ _ _ _ _ (hr.sees (S2.trans (S5.trans (S67.trans hJ.j.sees)))) (by omega) (by simp) (by simp <;> omega) (vX [2, 2] (by unfold maxLen; simp) (fk.sees hJ.j.sees)) (hf.sees (hJ.j.lent hm)) (List.mem_append_right _ hg) (f4.sees (S5.trans (S67.trans hJ.j.sees))) (f8.sees (S5.trans (S67.trans hJ.j.sees))) (f12.sees (S5.trans (S67.trans hJ.j.sees)))) ?_; rintro _ _ W68 S69 ⟨u, rfl, rfl, fu⟩
            refine go0 7 [.b 1 0] [] ?_
            refine hQ.toB [.agg #[Vi ((opE 11 (dJ (gJ l fs d) [2, 2] (bJ l n)).1).op), Vi ((opE 11 (dJ (gJ l fs d) [2, 2] (bJ l n)).1).k), Vi ((opE 11 (dJ (gJ l fs d) [2, 2] (bJ l n)).1).n), .string ((opE 11 (dJ (gJ l fs d) [2, 2] (bJ l n)).1).s), .string ((opE 11 (dJ (gJ l fs d) [2, 2] (bJ l n)).1).nm), .slice (sA u) (sN u) (sC u)]] [[sl, Vi (((dJ (gJ l fs d) [2, 2] (bJ l n)).2 : Nat) : Int)]] (fun H sH => ?_) (ix := [1])
            exact uK (fV q3 (by unfold aX; rw [if_neg q6, q7, q4]; rfl)) rfl rfl (fu.sees sH)
          · skip
            rw [q4] at pa3
            refine qQ (t := (cJ (aJ l n).a 6) == 0) (beq_eq_false_iff_ne.2 q6) ?_
            refine kV 66 [.b 0 2, .cl 19 #[Vi ((aJ l n).b), Vi 7] (Vi 3), .b 0 1, .cl 19 #[Vi ((aJ l n).a), Vi 3] (Vi 2), .fix] [] ?_ (ho := (And.intro (fun H sH => pb7 _ rb0 rb1 (by omega) (by omega)) (And.intro (fun H sH => pa3 _ a0 a1 (by omega) (by omega)) (trivial))))
            intro bfk W70 S71
            refine nQ 0 bfk 0 [Vi 3, Vi 3] fun fk => ?_
            refine mQ 2 (fun a w hJ => many 11 [3, 3] _ _ _ _ _ _ _ (hr.sees (S2.trans (S5.trans (S71.trans hJ.j.sees)))) (by omega) (by simp) (by simp <;> omega) (vX [3, 3] (by unfold maxLen; simp) (fk.sees hJ.j.sees)) (hf.sees (hJ.j.lent hm)) (List.mem_append_right _ hg) (f4.sees (S5.trans (S71.trans hJ.j.sees))) (f8.sees (S5.trans (S71.trans hJ.j.sees))) (f12.sees (S5.trans (S71.trans hJ.j.sees)))) ?_; rintro _ _ W72 S73 ⟨u, rfl, rfl, fu⟩
            refine go0 7 [.b 1 0] [] ?_
            refine hQ.toB [.agg #[Vi ((opE 11 (dJ (gJ l fs d) [3, 3] (bJ l n)).1).op), Vi ((opE 11 (dJ (gJ l fs d) [3, 3] (bJ l n)).1).k), Vi ((opE 11 (dJ (gJ l fs d) [3, 3] (bJ l n)).1).n), .string ((opE 11 (dJ (gJ l fs d) [3, 3] (bJ l n)).1).s), .string ((opE 11 (dJ (gJ l fs d) [3, 3] (bJ l n)).1).nm), .slice (sA u) (sN u) (sC u)]] [[sl, Vi (((dJ (gJ l fs d) [3, 3] (bJ l n)).2 : Nat) : Int)]] (fun H sH => ?_) (ix := [1])
            exact uK (fV q3 (by unfold aX; rw [if_neg q6, q7, q4]; rfl)) rfl rfl (fu.sees sH)
        · skip
          rw [q7] at pb7
          obtain q4 | q4 | q4 : cJ (aJ l n).a 3 = 0 ∨ cJ (aJ l n).a 3 = 1 ∨ cJ (aJ l n).a 3 = 2 := by omega
          · skip
            rw [q4] at pa3
            refine qQ (t := (cJ (aJ l n).a 6) == 0) (beq_eq_false_iff_ne.2 q6) ?_
            refine kV 66 [.b 0 2, .cl 19 #[Vi ((aJ l n).b), Vi 7] (Vi 4), .b 0 1, .cl 19 #[Vi ((aJ l n).a), Vi 3] (Vi 0), .fix] [] ?_ (ho := (And.intro (fun H sH => pb7 _ rb0 rb1 (by omega) (by omega)) (And.intro (fun H sH => pa3 _ a0 a1 (by omega) (by omega)) (trivial))))
            intro bfk W74 S75
            refine nQ 0 bfk 0 [Vi 1, Vi 1] fun fk => ?_
            refine mQ 2 (fun a w hJ => many 12 [1, 1] _ _ _ _ _ _ _ (hr.sees (S2.trans (S5.trans (S75.trans hJ.j.sees)))) (by omega) (by simp) (by simp <;> omega) (vX [1, 1] (by unfold maxLen; simp) (fk.sees hJ.j.sees)) (hf.sees (hJ.j.lent hm)) (List.mem_append_right _ hg) (f4.sees (S5.trans (S75.trans hJ.j.sees))) (f8.sees (S5.trans (S75.trans hJ.j.sees))) (f12.sees (S5.trans (S75.trans hJ.j.sees)))) ?_; rintro _ _ W76 S77 ⟨u, rfl, rfl, fu⟩
            refine go0 7 [.b 1 0] [] ?_
            refine hQ.toB [.agg #[Vi ((opE 12 (dJ (gJ l fs d) [1, 1] (bJ l n)).1).op), Vi ((opE 12 (dJ (gJ l fs d) [1, 1] (bJ l n)).1).k), Vi ((opE 12 (dJ (gJ l fs d) [1, 1] (bJ l n)).1).n), .string ((opE 12 (dJ (gJ l fs d) [1, 1] (bJ l n)).1).s), .string ((opE 12 (dJ (gJ l fs d) [1, 1] (bJ l n)).1).nm), .slice (sA u) (sN u) (sC u)]] [[sl, Vi (((dJ (gJ l fs d) [1, 1] (bJ l n)).2 : Nat) : Int)]] (fun H sH => ?_) (ix := [1])
            exact uK (fV q3 (by unfold aX; rw [if_neg q6, q7, q4]; rfl)) rfl rfl (fu.sees sH)
          · skip
            rw [q4] at pa3
            refine qQ (t := (cJ (aJ l n).a 6) == 0) (beq_eq_false_iff_ne.2 q6) ?_
            refine kV 66 [.b 0 2, .cl 19 #[Vi ((aJ l n).b), Vi 7] (Vi 4), .b 0 1, .cl 19 #[Vi ((aJ l n).a), Vi 3] (Vi 1), .fix] [] ?_ (ho := (And.intro (fun H sH => pb7 _ rb0 rb1 (by omega) (by omega)) (And.intro (fun H sH => pa3 _ a0 a1 (by omega) (by omega)) (trivial))))
            intro bfk W78 S79
            refine nQ 0 bfk 0 [Vi 2, Vi 2] fun fk => ?_
            refine mQ 2 (fun a w hJ => many 12 [2, 2] _ _ _ _ _ _ _ (hr.sees (S2.trans (S5.trans (S79.trans hJ.j.sees)))) (by omega) (by simp) (by simp <;> omega) (vX [2, 2] (by unfold maxLen; simp) (fk.sees hJ.j.sees)) (hf.sees (hJ.j.lent hm)) (List.mem_append_right _ hg) (f4.sees (S5.trans (S79.trans hJ.j.sees))) (f8.sees (S5.trans (S79.trans hJ.j.sees))) (f12.sees (S5.trans (S79.trans hJ.j.sees)))) ?_; rintro _ _ W80 S81 ⟨u, rfl, rfl, fu⟩
            refine go0 7 [.b 1 0] [] ?_
            refine hQ.toB [.agg #[Vi ((opE 12 (dJ (gJ l fs d) [2, 2] (bJ l n)).1).op), Vi ((opE 12 (dJ (gJ l fs d) [2, 2] (bJ l n)).1).k), Vi ((opE 12 (dJ (gJ l fs d) [2, 2] (bJ l n)).1).n), .string ((opE 12 (dJ (gJ l fs d) [2, 2] (bJ l n)).1).s), .string ((opE 12 (dJ (gJ l fs d) [2, 2] (bJ l n)).1).nm), .slice (sA u) (sN u) (sC u)]] [[sl, Vi (((dJ (gJ l fs d) [2, 2] (bJ l n)).2 : Nat) : Int)]] (fun H sH => ?_) (ix := [1])
            exact uK (fV q3 (by unfold aX; rw [if_neg q6, q7, q4]; rfl)) rfl rfl (fu.sees sH)
          · skip
            rw [q4] at pa3
            refine qQ (t := (cJ (aJ l n).a 6) == 0) (beq_eq_false_iff_ne.2 q6) ?_
            refine kV 66 [.b 0 2, .cl 19 #[Vi ((aJ l n).b), Vi 7] (Vi 4), .b 0 1, .cl 19 #[Vi ((aJ l n).a), Vi 3] (Vi 2), .fix] [] ?_ (ho := (And.intro (fun H sH => pb7 _ rb0 rb1 (by omega) (by omega)) (And.intro (fun H sH => pa3 _ a0 a1 (by omega) (by omega)) (trivial))))
            intro bfk W82 S83
            refine nQ 0 bfk 0 [Vi 3, Vi 3] fun fk => ?_
            refine mQ 2 (fun a w hJ => many 12 [3, 3] _ _ _ _ _ _ _ (hr.sees (S2.trans (S5.trans (S83.trans hJ.j.sees)))) (by omega) (by simp) (by simp <;> omega) (vX [3, 3] (by unfold maxLen; simp) (fk.sees hJ.j.sees)) (hf.sees (hJ.j.lent hm)) (List.mem_append_right _ hg) (f4.sees (S5.trans (S83.trans hJ.j.sees))) (f8.sees (S5.trans (S83.trans hJ.j.sees))) (f12.sees (S5.trans (S83.trans hJ.j.sees)))) ?_; rintro _ _ W84 S85 ⟨u, rfl, rfl, fu⟩
            refine go0 7 [.b 1 0] [] ?_
            refine hQ.toB [.agg #[Vi ((opE 12 (dJ (gJ l fs d) [3, 3] (bJ l n)).1).op), Vi ((opE 12 (dJ (gJ l fs d) [3, 3] (bJ l n)).1).k), Vi ((opE 12 (dJ (gJ l fs d) [3, 3] (bJ l n)).1).n), .string ((opE 12 (dJ (gJ l fs d) [3, 3] (bJ l n)).1).s), .string ((opE 12 (dJ (gJ l fs d) [3, 3] (bJ l n)).1).nm), .slice (sA u) (sN u) (sC u)]] [[sl, Vi (((dJ (gJ l fs d) [3, 3] (bJ l n)).2 : Nat) : Int)]] (fun H sH => ?_) (ix := [1])
            exact uK (fV q3 (by unfold aX; rw [if_neg q6, q7, q4]; rfl)) rfl rfl (fu.sees sH)
        · skip
          rw [q7] at pb7
          obtain q4 | q4 | q4 : cJ (aJ l n).a 3 = 0 ∨ cJ (aJ l n).a 3 = 1 ∨ cJ (aJ l n).a 3 = 2 := by omega
          · skip
            rw [q4] at pa3
            refine qQ (t := (cJ (aJ l n).a 6) == 0) (beq_eq_false_iff_ne.2 q6) ?_
            refine kV 66 [.b 0 2, .cl 19 #[Vi ((aJ l n).b), Vi 7] (Vi 5), .b 0 1, .cl 19 #[Vi ((aJ l n).a), Vi 3] (Vi 0), .fix] [] ?_ (ho := (And.intro (fun H sH => pb7 _ rb0 rb1 (by omega) (by omega)) (And.intro (fun H sH => pa3 _ a0 a1 (by omega) (by omega)) (trivial))))
            intro bfk W86 S87
            refine nQ 0 bfk 0 [Vi 1, Vi 1] fun fk => ?_
            refine mQ 2 (fun a w hJ => many 13 [1, 1] _ _ _ _ _ _ _ (hr.sees (S2.trans (S5.trans (S87.trans hJ.j.sees)))) (by omega) (by simp) (by simp <;> omega) (vX [1, 1] (by unfold maxLen; simp) (fk.sees hJ.j.sees)) (hf.sees (hJ.j.lent hm)) (List.mem_append_right _ hg) (f4.sees (S5.trans (S87.trans hJ.j.sees))) (f8.sees (S5.trans (S87.trans hJ.j.sees))) (f12.sees (S5.trans (S87.trans hJ.j.sees)))) ?_; rintro _ _ W88 S89 ⟨u, rfl, rfl, fu⟩
            refine go0 7 [.b 1 0] [] ?_
            refine hQ.toB [.agg #[Vi ((opE 13 (dJ (gJ l fs d) [1, 1] (bJ l n)).1).op), Vi ((opE 13 (dJ (gJ l fs d) [1, 1] (bJ l n)).1).k), Vi ((opE 13 (dJ (gJ l fs d) [1, 1] (bJ l n)).1).n), .string ((opE 13 (dJ (gJ l fs d) [1, 1] (bJ l n)).1).s), .string ((opE 13 (dJ (gJ l fs d) [1, 1] (bJ l n)).1).nm), .slice (sA u) (sN u) (sC u)]] [[sl, Vi (((dJ (gJ l fs d) [1, 1] (bJ l n)).2 : Nat) : Int)]] (fun H sH => ?_) (ix := [1])
            exact uK (fV q3 (by unfold aX; rw [if_neg q6, q7, q4]; rfl)) rfl rfl (fu.sees sH)
          · skip
            rw [q4] at pa3
            refine qQ (t := (cJ (aJ l n).a 6) == 0) (beq_eq_false_iff_ne.2 q6) ?_
            refine kV 66 [.b 0 2, .cl 19 #[Vi ((aJ l n).b), Vi 7] (Vi 5), .b 0 1, .cl 19 #[Vi ((aJ l n).a), Vi 3] (Vi 1), .fix] [] ?_ (ho := (And.intro (fun H sH => pb7 _ rb0 rb1 (by omega) (by omega)) (And.intro (fun H sH => pa3 _ a0 a1 (by omega) (by omega)) (trivial))))
            intro bfk W90 S91
            refine nQ 0 bfk 0 [Vi 2, Vi 2] fun fk => ?_
            refine mQ 2 (fun a w hJ => many 13 [2, 2] _ _ _ _ _ _ _ (hr.sees (S2.trans (S5.trans (S91.trans hJ.j.sees)))) (by omega) (by simp) (by simp <;> omega) (vX [2, 2] (by unfold maxLen; simp) (fk.sees hJ.j.sees)) (hf.sees (hJ.j.lent hm)) (List.mem_append_right _ hg) (f4.sees (S5.trans (S91.trans hJ.j.sees))) (f8.sees (S5.trans (S91.trans hJ.j.sees))) (f12.sees (S5.trans (S91.trans hJ.j.sees)))) ?_; rintro _ _ W92 S93 ⟨u, rfl, rfl, fu⟩
            refine go0 7 [.b 1 0] [] ?_
            refine hQ.toB [.agg #[Vi ((opE 13 (dJ (gJ l fs d) [2, 2] (bJ l n)).1).op), Vi ((opE 13 (dJ (gJ l fs d) [2, 2] (bJ l n)).1).k), Vi ((opE 13 (dJ (gJ l fs d) [2, 2] (bJ l n)).1).n), .string ((opE 13 (dJ (gJ l fs d) [2, 2] (bJ l n)).1).s), .string ((opE 13 (dJ (gJ l fs d) [2, 2] (bJ l n)).1).nm), .slice (sA u) (sN u) (sC u)]] [[sl, Vi (((dJ (gJ l fs d) [2, 2] (bJ l n)).2 : Nat) : Int)]] (fun H sH => ?_) (ix := [1])
            exact uK (fV q3 (by unfold aX; rw [if_neg q6, q7, q4]; rfl)) rfl rfl (fu.sees sH)
          · skip
            rw [q4] at pa3
            refine qQ (t := (cJ (aJ l n).a 6) == 0) (beq_eq_false_iff_ne.2 q6) ?_
            refine kV 66 [.b 0 2, .cl 19 #[Vi ((aJ l n).b), Vi 7] (Vi 5), .b 0 1, .cl 19 #[Vi ((aJ l n).a), Vi 3] (Vi 2), .fix] [] ?_ (ho := (And.intro (fun H sH => pb7 _ rb0 rb1 (by omega) (by omega)) (And.intro (fun H sH => pa3 _ a0 a1 (by omega) (by omega)) (trivial))))
            intro bfk W94 S95
            refine nQ 0 bfk 0 [Vi 3, Vi 3] fun fk => ?_
            refine mQ 2 (fun a w hJ => many 13 [3, 3] _ _ _ _ _ _ _ (hr.sees (S2.trans (S5.trans (S95.trans hJ.j.sees)))) (by omega) (by simp) (by simp <;> omega) (vX [3, 3] (by unfold maxLen; simp) (fk.sees hJ.j.sees)) (hf.sees (hJ.j.lent hm)) (List.mem_append_right _ hg) (f4.sees (S5.trans (S95.trans hJ.j.sees))) (f8.sees (S5.trans (S95.trans hJ.j.sees))) (f12.sees (S5.trans (S95.trans hJ.j.sees)))) ?_; rintro _ _ W96 S97 ⟨u, rfl, rfl, fu⟩
            refine go0 7 [.b 1 0] [] ?_
            refine hQ.toB [.agg #[Vi ((opE 13 (dJ (gJ l fs d) [3, 3] (bJ l n)).1).op), Vi ((opE 13 (dJ (gJ l fs d) [3, 3] (bJ l n)).1).k), Vi ((opE 13 (dJ (gJ l fs d) [3, 3] (bJ l n)).1).n), .string ((opE 13 (dJ (gJ l fs d) [3, 3] (bJ l n)).1).s), .string ((opE 13 (dJ (gJ l fs d) [3, 3] (bJ l n)).1).nm), .slice (sA u) (sN u) (sC u)]] [[sl, Vi (((dJ (gJ l fs d) [3, 3] (bJ l n)).2 : Nat) : Int)]] (fun H sH => ?_) (ix := [1])
            exact uK (fV q3 (by unfold aX; rw [if_neg q6, q7, q4]; rfl)) rfl rfl (fu.sees sH)
        · skip
          rw [q7] at pb7
          obtain q4 | q4 | q4 : cJ (aJ l n).a 3 = 0 ∨ cJ (aJ l n).a 3 = 1 ∨ cJ (aJ l n).a 3 = 2 := by omega
          · skip
            rw [q4] at pa3
            refine qQ (t := (cJ (aJ l n).a 6) == 0) (beq_eq_false_iff_ne.2 q6) ?_
            refine kV 66 [.b 0 2, .cl 19 #[Vi ((aJ l n).b), Vi 7] (Vi 6), .b 0 1, .cl 19 #[Vi ((aJ l n).a), Vi 3] (Vi 0), .fix] [] ?_ (ho := (And.intro (fun H sH => pb7 _ rb0 rb1 (by omega) (by omega)) (And.intro (fun H sH => pa3 _ a0 a1 (by omega) (by omega)) (trivial))))
            intro bfk W98 S99
            refine nQ 0 bfk 0 [Vi 1, Vi 1] fun fk => ?_
            refine mQ 2 (fun a w hJ => many 14 [1, 1] _ _ _ _ _ _ _ (hr.sees (S2.trans (S5.trans (S99.trans hJ.j.sees)))) (by omega) (by simp) (by simp <;> omega) (vX [1, 1] (by unfold maxLen; simp) (fk.sees hJ.j.sees)) (hf.sees (hJ.j.lent hm)) (List.mem_append_right _ hg) (f4.sees (S5.trans (S99.trans hJ.j.sees))) (f8.sees (S5.trans (S99.trans hJ.j.sees))) (f12.sees (S5.trans (S99.trans hJ.j.sees)))) ?_; rintro _ _ W100 S101 ⟨u, rfl, rfl, fu⟩
            refine go0 7 [.b 1 0] [] ?_
            refine hQ.toB [.agg #[Vi ((opE 14 (dJ (gJ l fs d) [1, 1] (bJ l n)).1).op), Vi ((opE 14 (dJ (gJ l fs d) [1, 1] (bJ l n)).1).k), Vi ((opE 14 (dJ (gJ l fs d) [1, 1] (bJ l n)).1).n), .string ((opE 14 (dJ (gJ l fs d) [1, 1] (bJ l n)).1).s), .string ((opE 14 (dJ (gJ l fs d) [1, 1] (bJ l n)).1).nm), .slice (sA u) (sN u) (sC u)]] [[sl, Vi (((dJ (gJ l fs d) [1, 1] (bJ l n)).2 : Nat) : Int)]] (fun H sH => ?_) (ix := [1])
            exact uK (fV q3 (by unfold aX; rw [if_neg q6, q7, q4]; rfl)) rfl rfl (fu.sees sH)
          · skip
            rw [q4] at pa3
            refine qQ (t := (cJ (aJ l n).a 6) == 0) (beq_eq_false_iff_ne.2 q6) ?_
            refine kV 66 [.b 0 2, .cl 19 #[Vi ((aJ l n).b), Vi 7] (Vi 6), .b 0 1, .cl 19 #[Vi ((aJ l n).a), Vi 3] (Vi 1), .fix] [] ?_ (ho := (And.intro (fun H sH => pb7 _ rb0 rb1 (by omega) (by omega)) (And.intro (fun H sH => pa3 _ a0 a1 (by omega) (by omega)) (trivial))))
            intro bfk W102 S103
            refine nQ 0 bfk 0 [Vi 2, Vi 2] fun fk => ?_
            refine mQ 2 (fun a w hJ => many 14 [2, 2] _ _ _ _ _ _ _ (hr.sees (S2.trans (S5.trans (S103.trans hJ.j.sees)))) (by omega) (by simp) (by simp <;> omega) (vX [2, 2] (by unfold maxLen; simp) (fk.sees hJ.j.sees)) (hf.sees (hJ.j.lent hm)) (List.mem_append_right _ hg) (f4.sees (S5.trans (S103.trans hJ.j.sees))) (f8.sees (S5.trans (S103.trans hJ.j.sees))) (f12.sees (S5.trans (S103.trans hJ.j.sees)))) ?_; rintro _ _ W104 S105 ⟨u, rfl, rfl, fu⟩
            refine go0 7 [.b 1 0] [] ?_
            refine hQ.toB [.agg #[Vi ((opE 14 (dJ (gJ l fs d) [2, 2] (bJ l n)).1).op), Vi ((opE 14 (dJ (gJ l fs d) [2, 2] (bJ l n)).1).k), Vi ((opE 14 (dJ (gJ l fs d) [2, 2] (bJ l n)).1).n), .string ((opE 14 (dJ (gJ l fs d) [2, 2] (bJ l n)).1).s), .string ((opE 14 (dJ (gJ l fs d) [2, 2] (bJ l n)).1).nm), .slice (sA u) (sN u) (sC u)]] [[sl, Vi (((dJ (gJ l fs d) [2, 2] (bJ l n)).2 : Nat) : Int)]] (fun H sH => ?_) (ix := [1])
            exact uK (fV q3 (by unfold aX; rw [if_neg q6, q7, q4]; rfl)) rfl rfl (fu.sees sH)
          · skip
            rw [q4] at pa3
            refine qQ (t := (cJ (aJ l n).a 6) == 0) (beq_eq_false_iff_ne.2 q6) ?_
            refine kV 66 [.b 0 2, .cl 19 #[Vi ((aJ l n).b), Vi 7] (Vi 6), .b 0 1, .cl 19 #[Vi ((aJ l n).a), Vi 3] (Vi 2), .fix] [] ?_ (ho := (And.intro (fun H sH => pb7 _ rb0 rb1 (by omega) (by omega)) (And.intro (fun H sH => pa3 _ a0 a1 (by omega) (by omega)) (trivial))))
            intro bfk W106 S107
            refine nQ 0 bfk 0 [Vi 3, Vi 3] fun fk => ?_
            refine mQ 2 (fun a w hJ => many 14 [3, 3] _ _ _ _ _ _ _ (hr.sees (S2.trans (S5.trans (S107.trans hJ.j.sees)))) (by omega) (by simp) (by simp <;> omega) (vX [3, 3] (by unfold maxLen; simp) (fk.sees hJ.j.sees)) (hf.sees (hJ.j.lent hm)) (List.mem_append_right _ hg) (f4.sees (S5.trans (S107.trans hJ.j.sees))) (f8.sees (S5.trans (S107.trans hJ.j.sees))) (f12.sees (S5.trans (S107.trans hJ.j.sees)))) ?_; rintro _ _ W108 S109 ⟨u, rfl, rfl, fu⟩
            refine go0 7 [.b 1 0] [] ?_
            refine hQ.toB [.agg #[Vi ((opE 14 (dJ (gJ l fs d) [3, 3] (bJ l n)).1).op), Vi ((opE 14 (dJ (gJ l fs d) [3, 3] (bJ l n)).1).k), Vi ((opE 14 (dJ (gJ l fs d) [3, 3] (bJ l n)).1).n), .string ((opE 14 (dJ (gJ l fs d) [3, 3] (bJ l n)).1).s), .string ((opE 14 (dJ (gJ l fs d) [3, 3] (bJ l n)).1).nm), .slice (sA u) (sN u) (sC u)]] [[sl, Vi (((dJ (gJ l fs d) [3, 3] (bJ l n)).2 : Nat) : Int)]] (fun H sH => ?_) (ix := [1])
            exact uK (fV q3 (by unfold aX; rw [if_neg q6, q7, q4]; rfl)) rfl rfl (fu.sees sH)
    · skip
      by_cases q6 : cJ (aJ l n).a 6 = 0
      · refine eV (t := (cJ (aJ l n).a 6) == 0) (beq_iff_eq.2 q6) ?_
        refine kV 6 [.fix] [] ?_
        intro bfk W110 S111
        refine nQ 0 bfk 0 [Vi 2, Vi 3, Vi 3] fun fk => ?_
        refine mQ 2 (fun a w hJ => many 17 [2, 3, 3] _ _ _ _ _ _ _ (hr.sees (S2.trans (S5.trans (S111.trans hJ.j.sees)))) (by omega) (by simp) (by simp <;> omega) (vX [2, 3, 3] (by unfold maxLen; simp) (fk.sees hJ.j.sees)) (hf.sees (hJ.j.lent hm)) (List.mem_append_right _ hg) (f4.sees (S5.trans (S111.trans hJ.j.sees))) (f8.sees (S5.trans (S111.trans hJ.j.sees))) (f12.sees (S5.trans (S111.trans hJ.j.sees)))) ?_; rintro _ _ W112 S113 ⟨u, rfl, rfl, fu⟩
        refine go0 5 [.b 1 0] [] ?_
        refine hQ.toB [.agg #[Vi ((opE 17 (dJ (gJ l fs d) [2, 3, 3] (bJ l n)).1).op), Vi ((opE 17 (dJ (gJ l fs d) [2, 3, 3] (bJ l n)).1).k), Vi ((opE 17 (dJ (gJ l fs d) [2, 3, 3] (bJ l n)).1).n), .string ((opE 17 (dJ (gJ l fs d) [2, 3, 3] (bJ l n)).1).s), .string ((opE 17 (dJ (gJ l fs d) [2, 3, 3] (bJ l n)).1).nm), .slice (sA u) (sN u) (sC u)]] [[sl, Vi (((dJ (gJ l fs d) [2, 3, 3] (bJ l n)).2 : Nat) : Int)]] (fun H sH => ?_) (ix := [1])
        exact uK (fV q3 (by unfold aX; rw [if_pos q6])) rfl rfl (fu.sees sH)
      · skip
        refine qQ (t := (cJ (aJ l n).a 6) == 0) (beq_eq_false_iff_ne.2 q6) ?_
        refine kV 30 [.fix] [] ?_
        intro bfk W114 S115
        refine nQ 0 bfk 0 [Vi 3, Vi 3] fun fk => ?_
        refine mQ 2 (fun a w hJ => many 10 [3, 3] _ _ _ _ _ _ _ (hr.sees (S2.trans (S5.trans (S115.trans hJ.j.sees)))) (by omega) (by simp) (by simp <;> omega) (vX [3, 3] (by unfold maxLen; simp) (fk.sees hJ.j.sees)) (hf.sees (hJ.j.lent hm)) (List.mem_append_right _ hg) (f4.sees (S5.trans (S115.trans hJ.j.sees))) (f8.sees (S5.trans (S115.trans hJ.j.sees))) (f12.sees (S5.trans (S115.trans hJ.j.sees)))) ?_; rintro _ _ W116 S117 ⟨u, rfl, rfl, fu⟩
        refine go0 4 [.b 1 0] [] ?_
        refine hQ.toB [.agg #[Vi ((opE 10 (dJ (gJ l fs d) [3, 3] (bJ l n)).1).op), Vi ((opE 10 (dJ (gJ l fs d) [3, 3] (bJ l n)).1).k), Vi ((opE 10 (dJ (gJ l fs d) [3, 3] (bJ l n)).1).n), .string ((opE 10 (dJ (gJ l fs d) [3, 3] (bJ l n)).1).s), .string ((opE 10 (dJ (gJ l fs d) [3, 3] (bJ l n)).1).nm), .slice (sA u) (sN u) (sC u)]] [[sl, Vi (((dJ (gJ l fs d) [3, 3] (bJ l n)).2 : Nat) : Int)]] (fun H sH => ?_) (ix := [1])
        exact uK (fV q3 (by unfold aX; rw [if_neg q6]; rfl)) rfl rfl (fu.sees sH)
theorem exprC_all (l:List RawD) (fs:List Fd) (hlen:l.length * 40≤reachBytes) (hok:∀ r∈l,r.ok) (hfs:fs.length≤100):∀ d,d < 1000→ExprC l fs d
 | 0,_=>expr_zero l fs hlen hok hfs
 | d + 1,hd=>expr_succ l fs hlen hok hfs d (by omega) (exprC_all l fs hlen hok hfs d (by omega))
end Go.Proofs.YtmoahpojchndiaaGreat
namespace Go.Proofs.YtmoahpojchndiaaGreat
open Go.RowKit
def cntE:Nat→Nat
 | 0=>1
 | d + 1=>1 + 3 * cntE d
theorem cntE_pos (d:Nat):1≤cntE d:=by cases d <;> simp [cntE]
theorem wf_leaf {x:Ex} (h:TopOk x) (ha:x.args=[]):WfE x∧szE x=(1,1):=by
 refine ⟨WfE.mk' h (by rw [ha]; exact WfL.all (fun x hx=>by cases hx)),?_⟩
 rw [qY,ha]; rfl
theorem constE_ok (kind:Int) (r:RawD) (h1:1≤kind) (h3:kind≤3):TopOk (iK kind r):=by
 left
 have hk:=val_known kind r.k r.a r.t h1 h3
 refine ⟨rfl,?_,fun hk1=>?_,rfl,rfl⟩
 ·show qJ kind (if kind=1 then absI (valN kind r.k r.a) else valN kind r.k r.a) (valS kind r.t)
  by_cases g:kind=1
  ·rw [if_pos g]
   subst g
   unfold qJ at hk ⊢
   have hl:=val_lim 1 r (by omega) (by omega)
   simp only [absI]
   rcases hk with hk | hk | hk
   ·have hs:=hk.2.2
    refine .inl ⟨by first | rfl | trivial,?_,hs⟩
    unfold Lim
    split <;> omega
   ·omega
   ·omega
  ·rw [if_neg g]; exact hk
 ·have g:kind=1:=hk1
  show 0≤(if kind=1 then absI (valN kind r.k r.a) else valN kind r.k r.a)
  rw [if_pos g]; unfold absI; split <;> omega
theorem refE_ok {s:ByteArray} (h:rJ s.data.toList):TopOk (refE s):=.inr (.inl ⟨rfl,h,rfl,rfl,rfl,rfl⟩)
theorem leafE_ok (r:RawD) (fs:List Fd) (kind:Int) (h1:1≤kind) (h3:kind≤3) (hn:∀ f∈fs,rJ f.name.data.toList):TopOk (sV r fs kind):=by
 unfold sV
 split
 ·rename_i s hs
  split
  ·exact constE_ok kind r h1 h3
  ·have:=List.mem_of_getElem? hs
   obtain ⟨f,hf,rfl⟩:=List.mem_map.1 this
   exact refE_ok (hn f (List.mem_filter.1 hf).1)
 ·exact constE_ok kind r h1 h3
theorem pickE_ok (r:RawD) (kind:Int) (h1:1≤kind) (h3:kind≤3):3≤(aX r kind).1∧(aX r kind).1≤18∧(aX r kind).2.length=arity (aX r kind).1∧∀ k∈(aX r kind).2,1≤k∧k≤3:=by
 have a0:=fX r.a 6 (by omega)
 have b0:=fX r.b 7 (by omega)
 have b1:=eX r.b 7 (by omega)
 have c0:=fX r.a 3 (by omega)
 have c1:=eX r.a 3 (by omega)
 have hm:∀ n:Int,0≤n→n < 7→n≠0→n≠1→5≤intOps n∧intOps n≤9:=fun n _ _ _ _=>by
  unfold intOps; repeat' split
  all_goals omega
 have har:∀ op:Int,5≤op→op≤16→arity op=2:=fun op _ _=>by
  unfold arity
  rw [if_neg (by omega),if_neg (by omega),if_neg (by omega)]
 unfold aX
 split
 ·refine ⟨by omega,by omega,rfl,fun k hk=>?_⟩
  simp at hk; omega
 ·split
  ·split
   ·exact ⟨by simp,by simp,rfl,fun k hk=>by simp at hk; omega⟩
   ·split
    ·exact ⟨by simp,by simp,rfl,fun k hk=>by simp at hk; omega⟩
    ·have:=hm (cJ r.b 7) b0 b1 (by assumption) (by assumption)
     refine ⟨by simp only; omega,by simp only; omega,?_,fun k hk=>by simp at hk; omega⟩
     rw [har _ (by simp only; omega) (by simp only; omega)]; rfl
  ·split
   ·split
    ·exact ⟨by simp,by simp,rfl,fun k hk=>by simp at hk; omega⟩
    ·split
     ·refine ⟨by simp only; omega,by simp only; omega,?_,fun k hk=>by simp at hk; omega⟩
      rw [har _ (by simp only; omega) (by simp only; omega)]; rfl
     ·refine ⟨by simp only; omega,by simp only; omega,?_,fun k hk=>by simp at hk; omega⟩
      rw [har _ (by simp only; omega) (by simp only; omega)]; rfl
   ·exact ⟨by simp,by simp,rfl,fun k hk=>by simp at hk; omega⟩
theorem szL_le {m d:Nat}:∀ {l:List Ex},(∀ x∈l,(szE x).1≤m∧(szE x).2≤d)→(szL l).1≤l.length * m∧(szL l).2≤d
 | [],_=>by simp [szL]
 | x :: l,h=>by
  have h1:=h x (by simp)
  have h2:=szL_le (l:=l) (fun y hy=>h y (by simp [hy]))
  rw [szL,List.length_cons,Nat.succ_mul]
  exact ⟨by simp only; omega,by simp only; exact Nat.max_le.2 ⟨h1.2,h2.2⟩⟩
theorem manyE_all {one:Int→Nat→Ex × Nat} {p:Ex→Prop}:∀ (ks:List Int) (n:Nat),(∀ k∈ks,∀ n,p (one k n).1)→(dJ one ks n).1.length=ks.length∧∀ x∈(dJ one ks n).1,p x
 | [],n,_=>⟨rfl,fun x hx=>by cases hx⟩
 | k :: ks,n,h=>by
  have:=manyE_all ks (one k n).2 (fun k' hk=>h k' (by simp [hk]))
  refine ⟨by show ((dJ one ks (one k n).2).1.length + 1)=_; rw [this.1]; rfl,fun x hx=>?_⟩
  rcases List.mem_cons.1 hx with rfl | hx
  ·exact h k (by simp) n
  ·exact this.2 x hx
theorem genE_ok (l:List RawD) (fs:List Fd) (hn:∀ f∈fs,rJ f.name.data.toList):∀ (d:Nat) (kind:Int) (n:Nat),1≤kind→kind≤3→WfE (gJ l fs d kind n).1∧(szE (gJ l fs d kind n).1).1≤cntE d∧(szE (gJ l fs d kind n).1).2≤d + 1
 | 0,kind,n,h1,h3=>by
  have:=wf_leaf (leafE_ok (aJ l (bJ l n)) fs kind h1 h3 hn) (leaf_args _ _ _)
  show WfE (sV _ _ _)∧(szE (sV _ _ _)).1≤1∧(szE (sV _ _ _)).2≤1
  rw [this.2]; exact ⟨this.1,Nat.le_refl _,Nat.le_refl _⟩
 | d + 1,kind,n,h1,h3=>by
  have hc:=cntE_pos d
  by_cases g:cJ (aJ l n).k 3=0
  ·rw [genE_leaf g]
   have:=wf_leaf (leafE_ok (aJ l (bJ l n)) fs kind h1 h3 hn) (leaf_args _ _ _)
   simp only [cntE]
   rw [this.2]; exact ⟨this.1,by simp only; omega,by simp only; omega⟩
  ·obtain ⟨p1,p2,p3,p4⟩:=pickE_ok (aJ l n) kind h1 h3
   have hl:=pickE_len (aJ l n) kind
   obtain ⟨op,ks,hp⟩:∃ op ks,aX (aJ l n) kind=(op,ks):=⟨(aX (aJ l n) kind).1,(aX (aJ l n) kind).2,by cases aX (aJ l n) kind; rfl⟩
   rw [fV g hp]
   rw [hp] at p1 p2 p3 p4 hl
   simp only at p1 p2 p3 p4 hl
   obtain ⟨m1,m2⟩:=manyE_all (one:=gJ l fs d) (p:=fun x=>WfE x∧(szE x).1≤cntE d∧(szE x).2≤d + 1) ks (bJ l n) (fun k hk n=>genE_ok l fs hn d k n (p4 k hk).1 (p4 k hk).2)
   have hs:=szL_le (m:=cntE d) (d:=d + 1) (fun x hx=>(m2 x hx).2)
   rw [m1] at hs
   have hmul:=Nat.mul_le_mul_right (cntE d) hl
   generalize dJ (gJ l fs d) ks (bJ l n)=q at *
   have e:szE (opE op q.1)=(1 + (szL q.1).1,1 + (szL q.1).2):=qY _
   show WfE (opE op q.1)∧(szE (opE op q.1)).1≤cntE (d + 1)∧(szE (opE op q.1)).2≤d + 1 + 1
   rw [e]
   refine ⟨WfE.mk' (.inr (.inr ⟨p1,p2,rfl,rfl,rfl,rfl,m1.trans p3⟩)) (WfL.all (fun x hx=>(m2 x hx).1)),?_,?_⟩
   ·simp only [cntE]; omega
   ·simp only; omega
end Go.Proofs.YtmoahpojchndiaaGreat
namespace Go.Proofs.YtmoahpojchndiaaGreat
open Go.RowKit
theorem C0.of_draws {k:FuncId} {args:Array Value} {v:Value} (hc:∀ w,Calls Tryz.prog k args w (Draws v w)) (h:Vw):C0 Tryz.prog k args h (fun v' _=>v'=v):=by
 intro _ _ _ _
 refine (hc h.w).mono ?_
 rintro e w' ⟨rfl,n,rfl⟩
 exact ⟨v,[],rfl,⟨rfl,rfl,rfl,Nat.le_refl _,fun _ _ _=>rfl⟩,(fun x hx=>by cases hx),rfl,rfl⟩
def numF (op:Int):Nat:=if op=5 then 170 else if op=6 then 171 else if op=7 then 172 else if op=8 then 173 else 174
theorem num_any (op a b:Int) (h:Vw) (ha:Lim a) (hb:Lim b):C0 Tryz.prog (numF op) #[.int .i64 a,.int .i64 b] h (fun v _=>v=.tuple #[.int .i64 (iW op a b).1,.int .i64 (iW op a b).2]):=by
 unfold numF iW
 by_cases h5:op=5
 ·rw [if_pos h5,if_pos h5]
  by_cases hl : -1099511627776≤a * b∧a * b≤1099511627776
  ·rw [if_pos hl]; exact C0.of_same (fun w=>mul_ok a b _ w ha hb hl rfl) h
  ·rw [if_neg hl]; exact C0.of_same (fun w=>mul_over a b w ha hb hl) h
 ·rw [if_neg h5,if_neg h5]
  by_cases h6:op=6
  ·rw [if_pos h6,if_pos h6]
   by_cases hz:b=0
   ·subst hz; rw [if_pos rfl]; exact C0.of_same (fun w=>div_zero a w ha) h
   ·rw [if_neg hz]; exact C0.of_draws (fun w=>div_ok a b w ha hb hz) h
  ·rw [if_neg h6,if_neg h6]
   by_cases h7:op=7
   ·rw [if_pos h7,if_pos h7]
    by_cases hz:b=0
    ·subst hz; rw [if_pos rfl]; exact C0.of_same (fun w=>mod_zero a w ha) h
    ·rw [if_neg hz]; exact C0.of_draws (fun w=>mod_ok a b w ha hb hz) h
   ·rw [if_neg h7,if_neg h7]
    by_cases h8:op=8
    ·rw [if_pos h8,if_pos h8]
     by_cases hl : -1099511627776≤a + b∧a + b≤1099511627776
     ·rw [if_pos hl]; exact C0.of_same (fun w=>add_ok a b w ha hb hl) h
     ·rw [if_neg hl]; exact C0.of_same (fun w=>add_over a b w ha hb (by omega)) h
    ·rw [if_neg h8,if_neg h8]
     by_cases hl : -1099511627776≤a - b∧a - b≤1099511627776
     ·rw [if_pos hl]; exact C0.of_same (fun w=>sub_ok a b w ha hb hl) h
     ·rw [if_neg hl]; exact C0.of_same (fun w=>sub_over a b w ha hb (by omega)) h
theorem xK (e:Int) (h:Vw):C0 Tryz.prog 135 #[.int .i64 e] h (fun v _=>v=(wK e).val):=by
 refine oQ Tryz.func135 (c:=Tryz.f135.body.getD .skip) (N:=5) ?_
 intro hbx hbad Q hQ
 refine go1 13 [.own,.b 0 0] [] ?_
 intro b1
 refine hQ.to [.agg #[Vi 5,Vi e,Ve]] (fun H sH=>?_) (ix:=[0])
 exact rfl
theorem uY (b:Bool) (h:Vw):C0 Tryz.prog 168 #[.bool b] h (fun v _=>v=(truthV b).val):=by
 cases b
 ·refine oQ Tryz.func168 (c:=Tryz.f168.body.getD .skip) (N:=6) ?_
  intro hbx hbad Q hQ
  refine go1 21 [.own,.b 0 0] [] ?_
  intro b1
  refine hQ.to [.agg #[Vi 2,Vi 0,Ve]] (fun H sH=>?_) (ix:=[0])
  exact rfl
 ·refine oQ Tryz.func168 (c:=Tryz.f168.body.getD .skip) (N:=6) ?_
  intro hbx hbad Q hQ
  refine go1 20 [.own,.b 0 0] [] ?_
  intro b1
  refine hQ.to [.agg #[Vi 2,Vi 1,Ve]] (fun H sH=>?_) (ix:=[0])
  exact rfl
abbrev vrows (l:List Vl):List (List Value):=l.map Vl.cells
theorem oV (l:List Vl) (sl:Value) (kind:Int) (h:Vw) (hr:RS h 3 sl (vrows l)) (hl:l.length≤1000):C0 Tryz.prog 169 #[sl,.int .i64 kind] h (fun v _=>v=.bool (nV l kind)):=by
 obtain ⟨A,cap,rfl,-,-,-⟩:=hr.form
 rw [List.length_map] at *
 generalize hL:l.length=len at *
 refine oQ Tryz.func169 (c:=Tryz.f169.body.getD .skip) (N:=18) ?_
 intro hbx hbad Q hQ
 refine go0 14 [] [] ?_
 refine wQ [0,1,0,1] [.block 0,.seq [1,1]] (fun (k:Nat) X=>∃ (W1:Vw) ,X W1 [(1,Vi kind),(7,.slice A len cap),(8,Vi (len:Int)),(9,Vi (k:Int))] [] []∧Sees h W1∧(k≤len)∧(∀ v∈l.take k,v.k=kind)) (fun k=>len - k) (0) (fun X q=>⟨h,q _ _ _ _ ⟨rfl,by kernel_rfl⟩,Sees.refl _,Nat.zero_le _,by simp⟩) ?_
 rintro k a w ⟨W1,hJ,S2,hk,ha⟩; refine aV hJ ?_; clear hJ a w
 refine go0 6 [] [] ?_
 rcases (by omega:k < len∨len=k) with hlt | hke
 ·obtain ⟨y,hy⟩:∃ y,l[k]?=some y:=⟨_,List.getElem?_eq_getElem (by omega)⟩
  have hrow:(vrows l)[k]?=some y.cells:=by rw [List.getElem?_map,hy]; rfl
  refine eV (t:=decide ((k:Int) < (len:Int))) (decide_eq_true (by omega)) ?_
  refine go0 6 [] [] ?_
  obtain ⟨b3,o4,rfl,-,c5⟩:=RS.row hr (hrow)
  refine pQ (c5.sees S2) ?_
  refine go1 14 [.ix b3 o4 len cap k,.f 0 0,.own,.b 0 0,.b 0 0] [] ?_ (ho:=(And.intro (by first | omega | (simp; omega)) (trivial)))
  intro b6
  by_cases hyk:y.k=kind
  ·skip
   refine qQ (t:=y.k != kind) (bne_eq_false_iff_eq.2 hyk) ?_
   refine go0 7 [] [(17,Vi (IntKind.i64.wrap ((k:Int) + 1)),Vi ((k:Int) + 1))] ?_ (hc:=(And.intro (jJ (by omega) (by omega)) (trivial)))
   exact dV (k + 1) (fun X q=>⟨W1,q _ _ _ _ ⟨rfl,by kernel_rfl⟩,S2,by omega,by rw [sY l k y hy]; intro v hv; rcases List.mem_append.1 hv with g | g; exact ha v g; rw [List.mem_singleton.1 g]; exact hyk⟩) (by omega)
  ·skip
   refine eV (t:=y.k != kind) (bne_iff_ne.2 hyk) ?_
   refine go0 8 [] [] ?_
   refine vQ ?_
   refine go0 2 [] [] ?_
   refine hQ.to [.bool false] (fun H sH=>?_)
   show Value.bool false=_
   have:nV l kind=false:=by
    unfold nV
    rw [List.all_eq_false]
    exact ⟨y,List.mem_of_getElem? hy,by simpa using hyk⟩
   rw [this]
 ·skip
  have hta:l.take k=l:=by rw [← hke,← hL,List.take_length]
  rw [hta] at ha
  refine qQ (t:=decide ((k:Int) < (len:Int))) (decide_eq_false (by omega)) ?_
  refine go0 2 [] [] ?_
  refine vQ ?_
  refine go0 8 [] [] ?_
  refine hQ.to [.bool true] (fun H sH=>?_)
  show Value.bool true=_
  have:nV l kind=true:=by
   unfold nV
   rw [List.all_eq_true]
   intro v hv; simpa using ha v hv
  rw [this]
theorem compare_other (v w':Vl) (h:Vw) (hv:v.known) (hw:w'.known) (hne:v.k≠w'.k):C0 Tryz.prog 167 #[v.val,w'.val] h (fun r _=>r=.tuple #[.int .i64 0,.int .i64 9]):=by
 have h1:=c_known v.k v.n v.s
 have h2:=c_known w'.k w'.n w'.s
 refine oQ Tryz.func167 (c:=Tryz.f167.body.getD .skip) (N:=33) ?_
 intro hbx hbad Q hQ
 refine go2 37 [.own,.own,.b 1 0,.cl 68 #[.agg #[Vi v.k,Vi v.n,.string v.s]] (.bool true),.b 0 0,.cl 68 #[.agg #[Vi w'.k,Vi w'.n,.string w'.s]] (.bool true),.b 1 0,.b 0 0] [(19,.bool (v.k != w'.k),.bool true)] ?_ (ho:=(And.intro (fun H sH=>h1 _ hv) (And.intro (fun H sH=>h2 _ hw) (trivial)))) (hc:=(And.intro (congrArg Value.bool (bne_iff_ne.2 hne)) (trivial)))
 intro b1 b2
 refine hQ.to [Vi 0,Vi 9] (fun H sH=>?_)
 exact rfl
theorem compare_any (v w':Vl) (h:Vw) (hv:v.known) (hw:w'.known):C0 Tryz.prog 167 #[v.val,w'.val] h (fun r _=>r=if v.k=w'.k then .tuple #[.int .i64 (cmpV v.n w'.n v.s.toList w'.s.toList),.int .i64 0] else .tuple #[.int .i64 0,.int .i64 9]):=by
 by_cases he:v.k=w'.k
 ·obtain ⟨k,n,s⟩:=v
  obtain ⟨k',n',s'⟩:=w'
  simp only at he
  subst he
  rw [if_pos rfl]
  exact C0.of_gives (fun w=>compare_known k n n' s s' w hv hw) h
 ·rw [if_neg he]; exact compare_other v w' h hv hw he
end Go.Proofs.YtmoahpojchndiaaGreat
namespace Go.Proofs.YtmoahpojchndiaaGreat
open Go.RowKit
theorem hd0 (x:Vl) (l:List Vl):hdV (x :: l) 0=x:=rfl
theorem hd1 (x y:Vl) (l:List Vl):hdV (x :: y :: l) 1=y:=rfl
theorem run_cat {t:TypeId} {a b:ByteArray} {w:World} (h:a.size + b.size≤1000):(binOp .add t (.string a) (.string b)).run Tryz.prog w=.ok (.string (a++b)) w:=by rw [binOp_string_add]; exact run_string_add_sum w a b (by omega)
theorem row0 {h:Vw} {x:Vl} {l:List Vl} {sl:Value} (hr:RS h 3 sl (vrows (x :: l))):∃ b o cap,sl=.slice (some ⟨b,o,none⟩) (l.length + 1) cap∧Cells h b (o + 0 * 3) x.cells:=by
 obtain ⟨A,cap,rfl,-,-,-⟩:=hr.form
 obtain ⟨b,o,rfl,-,c⟩:=hr.row (i:=0) (x:=x.cells) rfl
 refine ⟨b,o,cap,?_,c⟩
 simp
theorem pV {l:List Vl} (hk:∀ v∈l,v.known) (h:nV l 1=true):∀ v∈l,Lim v.n:=fun v hv=>by
 have h1:v.k=1:=by unfold nV at h; rw [List.all_eq_true] at h; simpa using h v hv
 rcases hk v hv with g | g | g
 ·exact g.2.1
 ·omega
 ·omega
theorem known_texts {l:List Vl} (hk:∀ v∈l,v.known) (h:nV l 3=true):∀ v∈l,v.s.size≤40:=fun v hv=>by
 have h1:v.k=3:=by unfold nV at h; rw [List.all_eq_true] at h; simpa using h v hv
 rcases hk v hv with g | g | g
 ·omega
 ·omega
 ·exact g.2.2.1
def cmpP (x y:Vl):Int × Int:=if x.k=y.k then (cmpV x.n y.n x.s.toList y.s.toList,0) else (0,9)
theorem cmp2 (x y:Vl) (h:Vw) (hx:x.known) (hy:y.known):C0 Tryz.prog 167 #[x.val,y.val] h (fun r _=>r=.tuple #[.int .i64 (cmpP x y).1,.int .i64 (cmpP x y).2]):=by
 have:=compare_any x y h hx hy
 unfold cmpP
 by_cases he:x.k=y.k
 ·simp only [if_pos he] at this ⊢; exact this
 ·simp only [if_neg he] at this ⊢; exact this
theorem apply_11 (x y:Vl) (sl:Value) (h:Vw) (hr:RS h 3 sl (vrows [x,y])) (hk:∀ v∈[x,y],v.known):C0 Tryz.prog 139 #[.int .i64 11,sl] h (fun v _=>v=(nJ 11 [x,y]).val):=by
 obtain ⟨b,o,cap,rfl,c0⟩:=row0 hr
 have kx:=hk x (by simp)
 have ky:=hk y (by simp)
 have c1:Cells h b (o + 1 * 3) y.cells:=hr.cell (i:=1) rfl
 have hcp:=fun H=>cmp2 x y H kx ky
 have hap:nJ 11 [x,y]=if x.k=y.k then truthV (cmpB 11 (cmpV x.n y.n x.s.toList y.s.toList)) else wK 9:=by unfold nJ; rw [if_pos (by omega),hd0,hd1]
 have hp:(x.k=y.k→cmpP x y=(cmpV x.n y.n x.s.toList y.s.toList,0))∧(x.k≠y.k→cmpP x y=(0,9)):=⟨fun e=>if_pos e,fun e=>if_neg e⟩
 generalize cmpP x y=p at *
 refine oQ Tryz.func139 (c:=Tryz.f139.body.getD .skip) (N:=147) ?_
 intro hbx hbad Q hQ
 refine pQ (c0.sees (Sees.refl _)) ?_
 refine pQ (c1.sees (Sees.refl _)) ?_
 refine go1 24 [.own] [] ?_
 intro b1
 refine cV 12 0 [.pu,.v (fun gh=>.pointer (some ⟨b,o + 0 * 3,none⟩)),.lf 1 0,.pu,.v (fun gh=>.pointer (some ⟨b,o + 1 * 3,none⟩)),.lf 0 0,.v (fun gh=>.tuple #[Vi p.1,Vi p.2]),.pu,.pu,.pu,.pu,.pu] [] (trivial) ?_ ?_
 ·intro R hT hA hmono
  refine And.intro (rY hT hA b o 2 cap 0 (fun gh=>.pointer (some ⟨b,o + 0 * 3,none⟩)) ((by decide))) ?_
  refine And.intro (rY hT hA b o 2 cap 1 (fun gh=>.pointer (some ⟨b,o + 1 * 3,none⟩)) ((by decide))) ?_
  refine And.intro (t_v hT hA hmono (k:=167) (args:=(fun gh=>#[.agg #[Vi x.k,Vi x.n,.string x.s],.agg #[Vi y.k,Vi y.n,.string y.s]])) (f:=fun gh=>.tuple #[Vi p.1,Vi p.2]) (fun gh H sH fH lent=>hcp _)) ?_
  trivial
 rintro W2 S3 -
 refine go0 8 [] [] ?_
 by_cases he:x.k=y.k
 ·have e:=hp.1 he
  refine qQ (t:=p.2 != 0) ((by rw [e]; rfl)) ?_
  refine go0 11 [] [] ?_
  by_cases hc:p.1 < 0
  ·refine g_rew 38 (v:=.bool (decide (p.1 < 0))) (v':=.bool true) (congrArg Value.bool (decide_eq_true hc)) ?_
   refine go0 30 [.cl 168 #[.bool true] (.agg #[Vi 2,Vi 1,Ve]),.b 0 0] [] ?_ (ho:=(And.intro (fun H sH=>uY true _) (trivial)))
   rw [e] at hc
   have hb:cmpB 11 (cmpV x.n y.n x.s.toList y.s.toList)=true:=by simp only at hc; simp [cmpB,hc]
   refine hQ.to [.agg #[Vi 2,Vi 1,Ve]] (fun H sH=>?_) (ix:=[0])
   rw [hap,if_pos he,hb]; rfl
  ·skip
   refine g_rew 38 (v:=.bool (decide (p.1 < 0))) (v':=.bool false) (congrArg Value.bool (decide_eq_false hc)) ?_
   refine go0 30 [.cl 168 #[.bool false] (.agg #[Vi 2,Vi 0,Ve]),.b 0 0] [] ?_ (ho:=(And.intro (fun H sH=>uY false _) (trivial)))
   rw [e] at hc
   have hb:cmpB 11 (cmpV x.n y.n x.s.toList y.s.toList)=false:=by simp only at hc; simp [cmpB,hc]
   refine hQ.to [.agg #[Vi 2,Vi 0,Ve]] (fun H sH=>?_) (ix:=[0])
   rw [hap,if_pos he,hb]; rfl
 ·skip
  have e:=hp.2 he
  refine eV (t:=p.2 != 0) ((by rw [e]; rfl)) ?_
  refine go0 11 [.cl 135 #[Vi p.2] (.agg #[Vi 5,Vi p.2,Ve]),.b 0 0] [] ?_ (ho:=(And.intro (fun H sH=>xK _ _) (trivial)))
  refine hQ.to [.agg #[Vi 5,Vi p.2,Ve]] (fun H sH=>?_) (ix:=[0])
  rw [hap,if_neg he,e]; rfl
theorem apply_12 (x y:Vl) (sl:Value) (h:Vw) (hr:RS h 3 sl (vrows [x,y])) (hk:∀ v∈[x,y],v.known):C0 Tryz.prog 139 #[.int .i64 12,sl] h (fun v _=>v=(nJ 12 [x,y]).val):=by
 obtain ⟨b,o,cap,rfl,c0⟩:=row0 hr
 have kx:=hk x (by simp)
 have ky:=hk y (by simp)
 have c1:Cells h b (o + 1 * 3) y.cells:=hr.cell (i:=1) rfl
 have hcp:=fun H=>cmp2 x y H kx ky
 have hap:nJ 12 [x,y]=if x.k=y.k then truthV (cmpB 12 (cmpV x.n y.n x.s.toList y.s.toList)) else wK 9:=by unfold nJ; rw [if_pos (by omega),hd0,hd1]
 have hp:(x.k=y.k→cmpP x y=(cmpV x.n y.n x.s.toList y.s.toList,0))∧(x.k≠y.k→cmpP x y=(0,9)):=⟨fun e=>if_pos e,fun e=>if_neg e⟩
 generalize cmpP x y=p at *
 refine oQ Tryz.func139 (c:=Tryz.f139.body.getD .skip) (N:=147) ?_
 intro hbx hbad Q hQ
 refine pQ (c0.sees (Sees.refl _)) ?_
 refine pQ (c1.sees (Sees.refl _)) ?_
 refine go1 31 [.own] [] ?_
 intro b1
 refine cV 12 0 [.pu,.v (fun gh=>.pointer (some ⟨b,o + 0 * 3,none⟩)),.lf 1 0,.pu,.v (fun gh=>.pointer (some ⟨b,o + 1 * 3,none⟩)),.lf 0 0,.v (fun gh=>.tuple #[Vi p.1,Vi p.2]),.pu,.pu,.pu,.pu,.pu] [] (trivial) ?_ ?_
 ·intro R hT hA hmono
  refine And.intro (rY hT hA b o 2 cap 0 (fun gh=>.pointer (some ⟨b,o + 0 * 3,none⟩)) ((by decide))) ?_
  refine And.intro (rY hT hA b o 2 cap 1 (fun gh=>.pointer (some ⟨b,o + 1 * 3,none⟩)) ((by decide))) ?_
  refine And.intro (t_v hT hA hmono (k:=167) (args:=(fun gh=>#[.agg #[Vi x.k,Vi x.n,.string x.s],.agg #[Vi y.k,Vi y.n,.string y.s]])) (f:=fun gh=>.tuple #[Vi p.1,Vi p.2]) (fun gh H sH fH lent=>hcp _)) ?_
  trivial
 rintro W2 S3 -
 refine go0 8 [] [] ?_
 by_cases he:x.k=y.k
 ·have e:=hp.1 he
  refine qQ (t:=p.2 != 0) ((by rw [e]; rfl)) ?_
  refine go0 19 [] [] ?_
  by_cases hc:p.1≤0
  ·refine g_rew 46 (v:=.bool (decide (p.1≤0))) (v':=.bool true) (congrArg Value.bool (decide_eq_true hc)) ?_
   refine go0 22 [.cl 168 #[.bool true] (.agg #[Vi 2,Vi 1,Ve]),.b 0 0] [] ?_ (ho:=(And.intro (fun H sH=>uY true _) (trivial)))
   rw [e] at hc
   have hb:cmpB 12 (cmpV x.n y.n x.s.toList y.s.toList)=true:=by simp only at hc; simp [cmpB,hc]
   refine hQ.to [.agg #[Vi 2,Vi 1,Ve]] (fun H sH=>?_) (ix:=[0])
   rw [hap,if_pos he,hb]; rfl
  ·skip
   refine g_rew 46 (v:=.bool (decide (p.1≤0))) (v':=.bool false) (congrArg Value.bool (decide_eq_false hc)) ?_
   refine go0 22 [.cl 168 #[.bool false] (.agg #[Vi 2,Vi 0,Ve]),.b 0 0] [] ?_ (ho:=(And.intro (fun H sH=>uY false _) (trivial)))
   rw [e] at hc
   have hb:cmpB 12 (cmpV x.n y.n x.s.toList y.s.toList)=false:=by simp only at hc; simp [cmpB,hc]
   refine hQ.to [.agg #[Vi 2,Vi 0,Ve]] (fun H sH=>?_) (ix:=[0])
   rw [hap,if_pos he,hb]; rfl
 ·skip
  have e:=hp.2 he
  refine eV (t:=p.2 != 0) ((by rw [e]; rfl)) ?_
  refine go0 11 [.cl 135 #[Vi p.2] (.agg #[Vi 5,Vi p.2,Ve]),.b 0 0] [] ?_ (ho:=(And.intro (fun H sH=>xK _ _) (trivial)))
  refine hQ.to [.agg #[Vi 5,Vi p.2,Ve]] (fun H sH=>?_) (ix:=[0])
  rw [hap,if_neg he,e]; rfl
theorem apply_13 (x y:Vl) (sl:Value) (h:Vw) (hr:RS h 3 sl (vrows [x,y])) (hk:∀ v∈[x,y],v.known):C0 Tryz.prog 139 #[.int .i64 13,sl] h (fun v _=>v=(nJ 13 [x,y]).val):=by
 obtain ⟨b,o,cap,rfl,c0⟩:=row0 hr
 have kx:=hk x (by simp)
 have ky:=hk y (by simp)
 have c1:Cells h b (o + 1 * 3) y.cells:=hr.cell (i:=1) rfl
 have hcp:=fun H=>cmp2 x y H kx ky
 have hap:nJ 13 [x,y]=if x.k=y.k then truthV (cmpB 13 (cmpV x.n y.n x.s.toList y.s.toList)) else wK 9:=by unfold nJ; rw [if_pos (by omega),hd0,hd1]
 have hp:(x.k=y.k→cmpP x y=(cmpV x.n y.n x.s.toList y.s.toList,0))∧(x.k≠y.k→cmpP x y=(0,9)):=⟨fun e=>if_pos e,fun e=>if_neg e⟩
 generalize cmpP x y=p at *
 refine oQ Tryz.func139 (c:=Tryz.f139.body.getD .skip) (N:=147) ?_
 intro hbx hbad Q hQ
 refine pQ (c0.sees (Sees.refl _)) ?_
 refine pQ (c1.sees (Sees.refl _)) ?_
 refine go1 38 [.own] [] ?_
 intro b1
 refine cV 12 0 [.pu,.v (fun gh=>.pointer (some ⟨b,o + 0 * 3,none⟩)),.lf 1 0,.pu,.v (fun gh=>.pointer (some ⟨b,o + 1 * 3,none⟩)),.lf 0 0,.v (fun gh=>.tuple #[Vi p.1,Vi p.2]),.pu,.pu,.pu,.pu,.pu] [] (trivial) ?_ ?_
 ·intro R hT hA hmono
  refine And.intro (rY hT hA b o 2 cap 0 (fun gh=>.pointer (some ⟨b,o + 0 * 3,none⟩)) ((by decide))) ?_
  refine And.intro (rY hT hA b o 2 cap 1 (fun gh=>.pointer (some ⟨b,o + 1 * 3,none⟩)) ((by decide))) ?_
  refine And.intro (t_v hT hA hmono (k:=167) (args:=(fun gh=>#[.agg #[Vi x.k,Vi x.n,.string x.s],.agg #[Vi y.k,Vi y.n,.string y.s]])) (f:=fun gh=>.tuple #[Vi p.1,Vi p.2]) (fun gh H sH fH lent=>hcp _)) ?_
  trivial
 rintro W2 S3 -
 refine go0 8 [] [] ?_
 by_cases he:x.k=y.k
 ·have e:=hp.1 he
  refine qQ (t:=p.2 != 0) ((by rw [e]; rfl)) ?_
  refine go0 27 [] [] ?_
  by_cases hc:p.1=0
  ·refine g_rew 54 (v:=.bool (p.1 == 0)) (v':=.bool true) (congrArg Value.bool (beq_iff_eq.2 hc)) ?_
   refine go0 14 [.cl 168 #[.bool true] (.agg #[Vi 2,Vi 1,Ve]),.b 0 0] [] ?_ (ho:=(And.intro (fun H sH=>uY true _) (trivial)))
   rw [e] at hc
   have hb:cmpB 13 (cmpV x.n y.n x.s.toList y.s.toList)=true:=by simp only at hc; simp [cmpB,hc]
   refine hQ.to [.agg #[Vi 2,Vi 1,Ve]] (fun H sH=>?_) (ix:=[0])
   rw [hap,if_pos he,hb]; rfl
  ·skip
   refine g_rew 54 (v:=.bool (p.1 == 0)) (v':=.bool false) (congrArg Value.bool (beq_eq_false_iff_ne.2 hc)) ?_
   refine go0 14 [.cl 168 #[.bool false] (.agg #[Vi 2,Vi 0,Ve]),.b 0 0] [] ?_ (ho:=(And.intro (fun H sH=>uY false _) (trivial)))
   rw [e] at hc
   have hb:cmpB 13 (cmpV x.n y.n x.s.toList y.s.toList)=false:=by simp only at hc; simp [cmpB,hc]
   refine hQ.to [.agg #[Vi 2,Vi 0,Ve]] (fun H sH=>?_) (ix:=[0])
   rw [hap,if_pos he,hb]; rfl
 ·skip
  have e:=hp.2 he
  refine eV (t:=p.2 != 0) ((by rw [e]; rfl)) ?_
  refine go0 11 [.cl 135 #[Vi p.2] (.agg #[Vi 5,Vi p.2,Ve]),.b 0 0] [] ?_ (ho:=(And.intro (fun H sH=>xK _ _) (trivial)))
  refine hQ.to [.agg #[Vi 5,Vi p.2,Ve]] (fun H sH=>?_) (ix:=[0])
  rw [hap,if_neg he,e]; rfl
theorem apply_14 (x y:Vl) (sl:Value) (h:Vw) (hr:RS h 3 sl (vrows [x,y])) (hk:∀ v∈[x,y],v.known):C0 Tryz.prog 139 #[.int .i64 14,sl] h (fun v _=>v=(nJ 14 [x,y]).val):=by
 obtain ⟨b,o,cap,rfl,c0⟩:=row0 hr
 have kx:=hk x (by simp)
 have ky:=hk y (by simp)
 have c1:Cells h b (o + 1 * 3) y.cells:=hr.cell (i:=1) rfl
 have hcp:=fun H=>cmp2 x y H kx ky
 have hap:nJ 14 [x,y]=if x.k=y.k then truthV (cmpB 14 (cmpV x.n y.n x.s.toList y.s.toList)) else wK 9:=by unfold nJ; rw [if_pos (by omega),hd0,hd1]
 have hp:(x.k=y.k→cmpP x y=(cmpV x.n y.n x.s.toList y.s.toList,0))∧(x.k≠y.k→cmpP x y=(0,9)):=⟨fun e=>if_pos e,fun e=>if_neg e⟩
 generalize cmpP x y=p at *
 refine oQ Tryz.func139 (c:=Tryz.f139.body.getD .skip) (N:=147) ?_
 intro hbx hbad Q hQ
 refine pQ (c0.sees (Sees.refl _)) ?_
 refine pQ (c1.sees (Sees.refl _)) ?_
 refine go1 41 [.own] [] ?_
 intro b1
 refine cV 12 0 [.pu,.v (fun gh=>.pointer (some ⟨b,o + 0 * 3,none⟩)),.lf 1 0,.pu,.v (fun gh=>.pointer (some ⟨b,o + 1 * 3,none⟩)),.lf 0 0,.v (fun gh=>.tuple #[Vi p.1,Vi p.2]),.pu,.pu,.pu,.pu,.pu] [] (trivial) ?_ ?_
 ·intro R hT hA hmono
  refine And.intro (rY hT hA b o 2 cap 0 (fun gh=>.pointer (some ⟨b,o + 0 * 3,none⟩)) ((by decide))) ?_
  refine And.intro (rY hT hA b o 2 cap 1 (fun gh=>.pointer (some ⟨b,o + 1 * 3,none⟩)) ((by decide))) ?_
  refine And.intro (t_v hT hA hmono (k:=167) (args:=(fun gh=>#[.agg #[Vi x.k,Vi x.n,.string x.s],.agg #[Vi y.k,Vi y.n,.string y.s]])) (f:=fun gh=>.tuple #[Vi p.1,Vi p.2]) (fun gh H sH fH lent=>hcp _)) ?_
  trivial
 rintro W2 S3 -
 refine go0 8 [] [] ?_
 by_cases he:x.k=y.k
 ·have e:=hp.1 he
  refine qQ (t:=p.2 != 0) ((by rw [e]; rfl)) ?_
  refine go0 34 [] [] ?_
  by_cases hc:p.1≠0
  ·refine g_rew 61 (v:=.bool (p.1 != 0)) (v':=.bool true) (congrArg Value.bool (bne_iff_ne.2 hc)) ?_
   refine go0 7 [.cl 168 #[.bool true] (.agg #[Vi 2,Vi 1,Ve]),.b 0 0] [] ?_ (ho:=(And.intro (fun H sH=>uY true _) (trivial)))
   rw [e] at hc
   have hb:cmpB 14 (cmpV x.n y.n x.s.toList y.s.toList)=true:=by simp only at hc; simp [cmpB,hc]
   refine hQ.to [.agg #[Vi 2,Vi 1,Ve]] (fun H sH=>?_) (ix:=[0])
   rw [hap,if_pos he,hb]; rfl
  ·skip
   refine g_rew 61 (v:=.bool (p.1 != 0)) (v':=.bool false) (congrArg Value.bool (bne_eq_false_iff_eq.2 (Decidable.not_not.1 hc))) ?_
   refine go0 7 [.cl 168 #[.bool false] (.agg #[Vi 2,Vi 0,Ve]),.b 0 0] [] ?_ (ho:=(And.intro (fun H sH=>uY false _) (trivial)))
   rw [e] at hc
   have hb:cmpB 14 (cmpV x.n y.n x.s.toList y.s.toList)=false:=by simp only at hc; simp [cmpB,Decidable.not_not.1 hc]
   refine hQ.to [.agg #[Vi 2,Vi 0,Ve]] (fun H sH=>?_) (ix:=[0])
   rw [hap,if_pos he,hb]; rfl
 ·skip
  have e:=hp.2 he
  refine eV (t:=p.2 != 0) ((by rw [e]; rfl)) ?_
  refine go0 11 [.cl 135 #[Vi p.2] (.agg #[Vi 5,Vi p.2,Ve]),.b 0 0] [] ?_ (ho:=(And.intro (fun H sH=>xK _ _) (trivial)))
  refine hQ.to [.agg #[Vi 5,Vi p.2,Ve]] (fun H sH=>?_) (ix:=[0])
  rw [hap,if_neg he,e]; rfl
theorem apply_4 (x:Vl) (sl:Value) (h:Vw) (hr:RS h 3 sl (vrows [x])) (hk:∀ v∈[x],v.known):C0 Tryz.prog 139 #[.int .i64 4,sl] h (fun v _=>v=(nJ 4 [x]).val):=by
 obtain ⟨b,o,cap,rfl,c0⟩:=row0 hr
 have kx:=hk x (by simp)
 have hki:=fun H hq kd=>oV [x] (.slice (some ⟨b,o,none⟩) 1 cap) kd H hq (by simp)
 by_cases hq:nV [x] 2=true
 ·rw [show nJ 4 [x]=truthV (x.n == 0) from by unfold nJ; rw [if_neg (by omega),if_pos rfl,hd0,if_pos hq]]
  refine oQ Tryz.func139 (c:=Tryz.f139.body.getD .skip) (N:=147) ?_
  intro hbx hbad Q hQ
  refine pQ (c0.sees (Sees.refl _)) ?_
  refine go1 72 [.own,.cl 169 #[.slice (some ⟨b,o,none⟩) 1 cap,Vi 2] (.bool true),.ix b o 1 cap 0,.f 0 1,.cl 168 #[.bool (x.n == 0)] (.agg #[Vi 2,Vi (if (x.n == 0)=true then 1 else 0),Ve]),.b 0 0] [] ?_ (ho:=(And.intro (fun H sH=>hq ▸ hki _ (hr.sees sH) 2) (And.intro ((by decide)) (And.intro (fun H sH=>uY (x.n == 0) _) (trivial)))))
  intro b1
  refine hQ.to [.agg #[Vi 2,Vi (if (x.n == 0)=true then 1 else 0),Ve]] (fun H sH=>?_) (ix:=[0])
  exact rfl
 ·have hq':nV [x] 2=false:=by simpa using hq
  rw [show nJ 4 [x]=wK 9 from by unfold nJ; rw [if_neg (by omega),if_pos rfl,hd0,if_neg hq]]
  refine oQ Tryz.func139 (c:=Tryz.f139.body.getD .skip) (N:=147) ?_
  intro hbx hbad Q hQ
  refine pQ (c0.sees (Sees.refl _)) ?_
  refine go1 66 [.own,.cl 169 #[.slice (some ⟨b,o,none⟩) 1 cap,Vi 2] (.bool false),.cl 135 #[Vi 9] (.agg #[Vi 5,Vi 9,Ve]),.b 0 0] [] ?_ (ho:=(And.intro (fun H sH=>hq' ▸ hki _ (hr.sees sH) 2) (And.intro (fun H sH=>xK 9 _) (trivial))))
  intro b1
  refine hQ.to [.agg #[Vi 5,Vi 9,Ve]] (fun H sH=>?_) (ix:=[0])
  exact rfl
theorem apply_18 (x:Vl) (sl:Value) (h:Vw) (hr:RS h 3 sl (vrows [x])) (hk:∀ v∈[x],v.known):C0 Tryz.prog 139 #[.int .i64 18,sl] h (fun v _=>v=(nJ 18 [x]).val):=by
 obtain ⟨b,o,cap,rfl,c0⟩:=row0 hr
 have kx:=hk x (by simp)
 have hki:=fun H hq kd=>oV [x] (.slice (some ⟨b,o,none⟩) 1 cap) kd H hq (by simp)
 by_cases hq:nV [x] 3=true
 ·have hsz:=known_texts hk hq x (by simp)
  rw [show nJ 18 [x]=⟨1,(x.s.size:Int),⟨#[]⟩⟩ from by unfold nJ; rw [if_neg (by omega),if_neg (by omega),if_pos rfl,hd0,if_pos hq]]
  refine oQ Tryz.func139 (c:=Tryz.f139.body.getD .skip) (N:=147) ?_
  intro hbx hbad Q hQ
  refine pQ (c0.sees (Sees.refl _)) ?_
  refine go1 95 [.own,.cl 169 #[.slice (some ⟨b,o,none⟩) 1 cap,Vi 3] (.bool true),.ix b o 1 cap 0,.f 0 2,.b 0 0] [] ?_ (ho:=(And.intro (fun H sH=>hq ▸ hki _ (hr.sees sH) 3) (And.intro ((by decide)) (trivial))))
  intro b1
  refine hQ.to [.agg #[Vi 1,Vi (x.s.size:Int),Ve]] (fun H sH=>?_) (ix:=[0])
  exact rfl
 ·have hq':nV [x] 3=false:=by simpa using hq
  rw [show nJ 18 [x]=wK 9 from by unfold nJ; rw [if_neg (by omega),if_neg (by omega),if_pos rfl,hd0,if_neg hq]]
  refine oQ Tryz.func139 (c:=Tryz.f139.body.getD .skip) (N:=147) ?_
  intro hbx hbad Q hQ
  refine pQ (c0.sees (Sees.refl _)) ?_
  refine go1 80 [.own,.cl 169 #[.slice (some ⟨b,o,none⟩) 1 cap,Vi 3] (.bool false),.cl 135 #[Vi 9] (.agg #[Vi 5,Vi 9,Ve]),.b 0 0] [] ?_ (ho:=(And.intro (fun H sH=>hq' ▸ hki _ (hr.sees sH) 3) (And.intro (fun H sH=>xK 9 _) (trivial))))
  intro b1
  refine hQ.to [.agg #[Vi 5,Vi 9,Ve]] (fun H sH=>?_) (ix:=[0])
  exact rfl
theorem apply_10 (x y:Vl) (sl:Value) (h:Vw) (hr:RS h 3 sl (vrows [x,y])) (hk:∀ v∈[x,y],v.known):C0 Tryz.prog 139 #[.int .i64 10,sl] h (fun v _=>v=(nJ 10 [x,y]).val):=by
 obtain ⟨b,o,cap,rfl,c0⟩:=row0 hr
 have kx:=hk x (by simp)
 have ky:=hk y (by simp)
 have c1:Cells h b (o + 1 * 3) y.cells:=hr.cell (i:=1) rfl
 have hki:=fun H hq kd=>oV [x,y] (.slice (some ⟨b,o,none⟩) 2 cap) kd H hq (by simp)
 by_cases hq:nV [x,y] 3=true
 ·have hsx:=known_texts hk hq x (by simp)
  have hsy:=known_texts hk hq y (by simp)
  rw [show nJ 10 [x,y]=joinV x y from by unfold nJ; rw [if_neg (by omega),if_neg (by omega),if_neg (by omega),if_pos rfl,hd0,hd1,if_pos hq]]
  by_cases hc:40 < x.s.size + y.s.size
  ·rw [show joinV x y=wK 1 from if_pos hc]
   refine oQ Tryz.func139 (c:=Tryz.f139.body.getD .skip) (N:=147) ?_
   intro hbx hbad Q hQ
   refine pQ (c0.sees (Sees.refl _)) ?_
   refine pQ (c1.sees (Sees.refl _)) ?_
   refine go1 81 [.own,.cl 169 #[.slice (some ⟨b,o,none⟩) 2 cap,Vi 3] (.bool true)] [] ?_ (ho:=(And.intro (fun H sH=>hq ▸ hki _ (hr.sees sH) 3) (trivial)))
   intro b1
   refine cV 12 0 [.pu,.v (fun gh=>.pointer (some ⟨b,o + 0 * 3,none⟩)),.pu,.lf 1 2,.pu,.pu,.v (fun gh=>.pointer (some ⟨b,o + 1 * 3,none⟩)),.pu,.lf 0 2,.pu,.v (fun gh=>Vi ((x.s.size:Int) + (y.s.size:Int))),.pu] [] (trivial) ?_ ?_
   ·intro R hT hA hmono
    refine And.intro (rY hT hA b o 2 cap 0 (fun gh=>.pointer (some ⟨b,o + 0 * 3,none⟩)) ((by decide))) ?_
    refine And.intro (rY hT hA b o 2 cap 1 (fun gh=>.pointer (some ⟨b,o + 1 * 3,none⟩)) ((by decide))) ?_
    refine And.intro (t_p hT hA (fun gh=>Vi ((x.s.size:Int) + (y.s.size:Int))) (fun gh w=>xX (by kernel_rfl) (jJ (by omega) (by omega)))) ?_
    trivial
   rintro W2 S3 -
   refine go0 1 [] [] ?_
   refine eV (t:=decide (((x.s.size:Int) + (y.s.size:Int)) > 40)) (decide_eq_true (by omega)) ?_
   refine go0 10 [.cl 135 #[Vi 1] (.agg #[Vi 5,Vi 1,Ve]),.b 0 0] [] ?_ (ho:=(And.intro (fun H sH=>xK 1 _) (trivial)))
   refine hQ.to [.agg #[Vi 5,Vi 1,Ve]] (fun H sH=>?_) (ix:=[0])
   exact rfl
  ·rw [show joinV x y=⟨3,0,x.s++y.s⟩ from if_neg hc]
   refine oQ Tryz.func139 (c:=Tryz.f139.body.getD .skip) (N:=147) ?_
   intro hbx hbad Q hQ
   refine pQ (c0.sees (Sees.refl _)) ?_
   refine pQ (c1.sees (Sees.refl _)) ?_
   refine go1 81 [.own,.cl 169 #[.slice (some ⟨b,o,none⟩) 2 cap,Vi 3] (.bool true)] [] ?_ (ho:=(And.intro (fun H sH=>hq ▸ hki _ (hr.sees sH) 3) (trivial)))
   intro b1
   refine cV 12 0 [.pu,.v (fun gh=>.pointer (some ⟨b,o + 0 * 3,none⟩)),.pu,.lf 1 2,.pu,.pu,.v (fun gh=>.pointer (some ⟨b,o + 1 * 3,none⟩)),.pu,.lf 0 2,.pu,.v (fun gh=>Vi ((x.s.size:Int) + (y.s.size:Int))),.pu] [] (trivial) ?_ ?_
   ·intro R hT hA hmono
    refine And.intro (rY hT hA b o 2 cap 0 (fun gh=>.pointer (some ⟨b,o + 0 * 3,none⟩)) ((by decide))) ?_
    refine And.intro (rY hT hA b o 2 cap 1 (fun gh=>.pointer (some ⟨b,o + 1 * 3,none⟩)) ((by decide))) ?_
    refine And.intro (t_p hT hA (fun gh=>Vi ((x.s.size:Int) + (y.s.size:Int))) (fun gh w=>xX (by kernel_rfl) (jJ (by omega) (by omega)))) ?_
    trivial
   rintro W2 S3 -
   refine go0 1 [] [] ?_
   refine qQ (t:=decide (((x.s.size:Int) + (y.s.size:Int)) > 40)) (decide_eq_false (by omega)) ?_
   refine go0 3 [] [] ?_
   refine cV 11 0 [.pu,.v (fun gh=>.pointer (some ⟨b,o + 0 * 3,none⟩)),.pu,.lf 1 2,.pu,.v (fun gh=>.pointer (some ⟨b,o + 1 * 3,none⟩)),.pu,.lf 0 2,.v (fun gh=>.string (x.s++y.s)),.pu,.st 0 0] [] (trivial) ?_ ?_
   ·intro R hT hA hmono
    refine And.intro (rY hT hA b o 2 cap 0 (fun gh=>.pointer (some ⟨b,o + 0 * 3,none⟩)) ((by decide))) ?_
    refine And.intro (rY hT hA b o 2 cap 1 (fun gh=>.pointer (some ⟨b,o + 1 * 3,none⟩)) ((by decide))) ?_
    refine And.intro (t_p hT hA (fun gh=>.string (x.s++y.s)) (fun gh w=>run_bin (op:=.add) (t:=9) (x:=(.tmp 106)) (y:=(.tmp 110)) (yt:=9) (va:=.string x.s) (vb:=.string y.s) (by kernel_rfl) (by kernel_rfl) (by kernel_rfl) (by kernel_rfl) (run_cat (by omega)))) ?_
    trivial
   rintro W4 S5 -
   refine go0 4 [] [] ?_
   refine hQ.to [.agg #[Vi 3,Vi 0,.string (x.s++y.s)]] (fun H sH=>?_) (ix:=[0])
   exact rfl
 ·have hq':nV [x,y] 3=false:=by simpa using hq
  rw [show nJ 10 [x,y]=wK 9 from by unfold nJ; rw [if_neg (by omega),if_neg (by omega),if_neg (by omega),if_pos rfl,hd0,hd1,if_neg hq]]
  refine oQ Tryz.func139 (c:=Tryz.f139.body.getD .skip) (N:=147) ?_
  intro hbx hbad Q hQ
  refine pQ (c0.sees (Sees.refl _)) ?_
  refine pQ (c1.sees (Sees.refl _)) ?_
  refine go1 77 [.own,.cl 169 #[.slice (some ⟨b,o,none⟩) 2 cap,Vi 3] (.bool false),.cl 135 #[Vi 9] (.agg #[Vi 5,Vi 9,Ve]),.b 0 0] [] ?_ (ho:=(And.intro (fun H sH=>hq' ▸ hki _ (hr.sees sH) 3) (And.intro (fun H sH=>xK 9 _) (trivial))))
  intro b1
  refine hQ.to [.agg #[Vi 5,Vi 9,Ve]] (fun H sH=>?_) (ix:=[0])
  exact rfl
theorem apply_3 (x:Vl) (sl:Value) (h:Vw) (hr:RS h 3 sl (vrows [x])) (hk:∀ v∈[x],v.known):C0 Tryz.prog 139 #[.int .i64 3,sl] h (fun v _=>v=(nJ 3 [x]).val):=by
 obtain ⟨b,o,cap,rfl,c0⟩:=row0 hr
 have kx:=hk x (by simp)
 have hki:=fun H hq=>oV [x] (.slice (some ⟨b,o,none⟩) 1 cap) 1 H hq (by simp)
 have hap:nJ 3 [x]=if nV [x] 1=true then nrV 9 0 x.n else wK 9:=by unfold nJ; rw [if_neg (by omega),if_neg (by omega),if_neg (by omega),if_neg (by omega),if_pos rfl,hd0]
 have hnr:nrV 9 0 x.n=if (iW 9 0 x.n).2=0 then ⟨1,(iW 9 0 x.n).1,⟨#[]⟩⟩ else wK (iW 9 0 x.n).2:=rfl
 rw [hnr] at hap
 have hl:=fun q=>pV (l:=[x]) hk q
 have hn:=fun (q:nV [x] 1=true) H=>num_any 9 0 x.n H (by unfold Lim; omega) (hl q x (by simp))
 generalize iW 9 0 x.n=r at *
 generalize nV [x] 1=kv at *
 refine oQ Tryz.func139 (c:=Tryz.f139.body.getD .skip) (N:=147) ?_
 intro hbx hbad Q hQ
 refine pQ (c0.sees (Sees.refl _)) ?_
 refine go1 72 [.own,.cl 169 #[.slice (some ⟨b,o,none⟩) 1 cap,Vi 1] (.bool kv)] [] ?_ (ho:=(And.intro (fun H sH=>hki _ (hr.sees sH)) (trivial)))
 intro b1
 by_cases hq:kv=true
 ·skip
  refine qQ (t := !kv) ((by rw [hq]; rfl)) ?_
  refine go0 4 [] [] ?_
  refine g_mapmake ?_; intro b2
  refine yQ 0 b2 (es:=[]) (td:=.int .i64) (key:=Vi 5) (by kernel_rfl) ?_
  refine yQ 0 b2 (es:=[(Vi 5,.func (.func 170) #[] #[])]) (td:=.int .i64) (key:=Vi 6) (by kernel_rfl) ?_
  refine yQ 0 b2 (es:=[(Vi 5,.func (.func 170) #[] #[]),(Vi 6,.func (.func 171) #[] #[])]) (td:=.int .i64) (key:=Vi 7) (by kernel_rfl) ?_
  refine yQ 0 b2 (es:=[(Vi 5,.func (.func 170) #[] #[]),(Vi 6,.func (.func 171) #[] #[]),(Vi 7,.func (.func 172) #[] #[])]) (td:=.int .i64) (key:=Vi 8) (by kernel_rfl) ?_
  refine yQ 0 b2 (es:=[(Vi 5,.func (.func 170) #[] #[]),(Vi 6,.func (.func 171) #[] #[]),(Vi 7,.func (.func 172) #[] #[]),(Vi 8,.func (.func 173) #[] #[])]) (td:=.int .i64) (key:=Vi 9) (by kernel_rfl) ?_
  refine go0 2 [] [] ?_
  refine g_mapget 0 b2 (es:=[(Vi 5,.func (.func 170) #[] #[]),(Vi 6,.func (.func 171) #[] #[]),(Vi 7,.func (.func 172) #[] #[]),(Vi 8,.func (.func 173) #[] #[]),(Vi 9,.func (.func 174) #[] #[])]) (td:=.int .i64) (key:=Vi 3) (r:=none) .nilFunc .nilFunc (by kernel_rfl) ?_
  refine go0 4 [] [] ?_
  refine cV 13 0 [.pu,.v (fun gh=>.pointer (some ⟨b,o + 0 * 3,none⟩)),.pu,.lf 0 1,.pu,.pu,.pu,.pu,.v (fun gh=>.pointer (some ⟨b,o + 0 * 3,none⟩)),.pu,.lf 0 1,.pu,.pu] [] (trivial) ?_ ?_
  ·intro R hT hA hmono
   refine And.intro (rY hT hA b o 1 cap 0 (fun gh=>.pointer (some ⟨b,o + 0 * 3,none⟩)) ((by decide))) ?_
   refine And.intro (rY hT hA b o 1 cap 0 (fun gh=>.pointer (some ⟨b,o + 0 * 3,none⟩)) ((by decide))) ?_
   trivial
  rintro W3 S4 -
  refine go0 34 [.cl 174 #[Vi 0,Vi x.n] (.tuple #[Vi r.1,Vi r.2])] [] ?_ (ho:=(And.intro (fun H sH=>hn hq _) (trivial)))
  by_cases hc:r.2=0
  ·refine qQ (t:=r.2 != 0) (bne_eq_false_iff_eq.2 hc) ?_
   refine go0 10 [.b 1 0] [] ?_
   refine hQ.to [.agg #[Vi 1,Vi r.1,Ve]] (fun H sH=>?_) (ix:=[1])
   rw [hap,if_pos hq,if_pos hc]; rfl
  ·skip
   refine eV (t:=r.2 != 0) (bne_iff_ne.2 hc) ?_
   refine go0 9 [.cl 135 #[Vi r.2] (.agg #[Vi 5,Vi r.2,Ve]),.b 1 0] [] ?_ (ho:=(And.intro (fun H sH=>xK _ _) (trivial)))
   refine hQ.to [.agg #[Vi 5,Vi r.2,Ve]] (fun H sH=>?_) (ix:=[1])
   rw [hap,if_pos hq,if_neg hc]; rfl
 ·skip
  refine eV (t := !kv) ((by rw [show kv=false from by simpa using hq]; rfl)) ?_
  refine go0 8 [.cl 135 #[Vi 9] (.agg #[Vi 5,Vi 9,Ve]),.b 0 0] [] ?_ (ho:=(And.intro (fun H sH=>xK 9 _) (trivial)))
  refine hQ.to [.agg #[Vi 5,Vi 9,Ve]] (fun H sH=>?_) (ix:=[0])
  rw [hap,if_neg hq]; rfl
theorem apply_5 (x y:Vl) (sl:Value) (h:Vw) (hr:RS h 3 sl (vrows [x,y])) (hk:∀ v∈[x,y],v.known):C0 Tryz.prog 139 #[.int .i64 5,sl] h (fun v _=>v=(nJ 5 [x,y]).val):=by
 obtain ⟨b,o,cap,rfl,c0⟩:=row0 hr
 have kx:=hk x (by simp)
 have ky:=hk y (by simp)
 have c1:Cells h b (o + 1 * 3) y.cells:=hr.cell (i:=1) rfl
 have hki:=fun H hq=>oV [x,y] (.slice (some ⟨b,o,none⟩) 2 cap) 1 H hq (by simp)
 have hap:nJ 5 [x,y]=if nV [x,y] 1=true then nrV 5 x.n y.n else wK 9:=by unfold nJ; rw [if_neg (by omega),if_neg (by omega),if_neg (by omega),if_neg (by omega),if_neg (by omega),hd0,hd1]
 have hnr:nrV 5 x.n y.n=if (iW 5 x.n y.n).2=0 then ⟨1,(iW 5 x.n y.n).1,⟨#[]⟩⟩ else wK (iW 5 x.n y.n).2:=rfl
 rw [hnr] at hap
 have hl:=fun q=>pV (l:=[x,y]) hk q
 have hn:=fun (q:nV [x,y] 1=true) H=>num_any 5 x.n y.n H (hl q x (by simp)) (hl q y (by simp))
 generalize iW 5 x.n y.n=r at *
 generalize nV [x,y] 1=kv at *
 refine oQ Tryz.func139 (c:=Tryz.f139.body.getD .skip) (N:=147) ?_
 intro hbx hbad Q hQ
 refine pQ (c0.sees (Sees.refl _)) ?_
 refine pQ (c1.sees (Sees.refl _)) ?_
 refine go1 72 [.own,.cl 169 #[.slice (some ⟨b,o,none⟩) 2 cap,Vi 1] (.bool kv)] [] ?_ (ho:=(And.intro (fun H sH=>hki _ (hr.sees sH)) (trivial)))
 intro b1
 by_cases hq:kv=true
 ·skip
  refine qQ (t := !kv) ((by rw [hq]; rfl)) ?_
  refine go0 4 [] [] ?_
  refine g_mapmake ?_; intro b2
  refine yQ 0 b2 (es:=[]) (td:=.int .i64) (key:=Vi 5) (by kernel_rfl) ?_
  refine yQ 0 b2 (es:=[(Vi 5,.func (.func 170) #[] #[])]) (td:=.int .i64) (key:=Vi 6) (by kernel_rfl) ?_
  refine yQ 0 b2 (es:=[(Vi 5,.func (.func 170) #[] #[]),(Vi 6,.func (.func 171) #[] #[])]) (td:=.int .i64) (key:=Vi 7) (by kernel_rfl) ?_
  refine yQ 0 b2 (es:=[(Vi 5,.func (.func 170) #[] #[]),(Vi 6,.func (.func 171) #[] #[]),(Vi 7,.func (.func 172) #[] #[])]) (td:=.int .i64) (key:=Vi 8) (by kernel_rfl) ?_
  refine yQ 0 b2 (es:=[(Vi 5,.func (.func 170) #[] #[]),(Vi 6,.func (.func 171) #[] #[]),(Vi 7,.func (.func 172) #[] #[]),(Vi 8,.func (.func 173) #[] #[])]) (td:=.int .i64) (key:=Vi 9) (by kernel_rfl) ?_
  refine go0 2 [] [] ?_
  refine g_mapget 0 b2 (es:=[(Vi 5,.func (.func 170) #[] #[]),(Vi 6,.func (.func 171) #[] #[]),(Vi 7,.func (.func 172) #[] #[]),(Vi 8,.func (.func 173) #[] #[]),(Vi 9,.func (.func 174) #[] #[])]) (td:=.int .i64) (key:=Vi 5) (r:=some (0,.func (.func 170) #[] #[])) .nilFunc (.func (.func 170) #[] #[]) (by kernel_rfl) ?_
  refine go0 4 [] [] ?_
  refine cV 13 0 [.pu,.v (fun gh=>.pointer (some ⟨b,o + 0 * 3,none⟩)),.pu,.lf 1 1,.pu,.pu,.pu,.pu,.v (fun gh=>.pointer (some ⟨b,o + 1 * 3,none⟩)),.pu,.lf 0 1,.pu,.pu] [] (trivial) ?_ ?_
  ·intro R hT hA hmono
   refine And.intro (rY hT hA b o 2 cap 0 (fun gh=>.pointer (some ⟨b,o + 0 * 3,none⟩)) ((by decide))) ?_
   refine And.intro (rY hT hA b o 2 cap 1 (fun gh=>.pointer (some ⟨b,o + 1 * 3,none⟩)) ((by decide))) ?_
   trivial
  rintro W3 S4 -
  refine go0 31 [.cl 170 #[Vi x.n,Vi y.n] (.tuple #[Vi r.1,Vi r.2])] [] ?_ (ho:=(And.intro (fun H sH=>hn hq _) (trivial)))
  by_cases hc:r.2=0
  ·refine qQ (t:=r.2 != 0) (bne_eq_false_iff_eq.2 hc) ?_
   refine go0 10 [.b 1 0] [] ?_
   refine hQ.to [.agg #[Vi 1,Vi r.1,Ve]] (fun H sH=>?_) (ix:=[1])
   rw [hap,if_pos hq,if_pos hc]; rfl
  ·skip
   refine eV (t:=r.2 != 0) (bne_iff_ne.2 hc) ?_
   refine go0 9 [.cl 135 #[Vi r.2] (.agg #[Vi 5,Vi r.2,Ve]),.b 1 0] [] ?_ (ho:=(And.intro (fun H sH=>xK _ _) (trivial)))
   refine hQ.to [.agg #[Vi 5,Vi r.2,Ve]] (fun H sH=>?_) (ix:=[1])
   rw [hap,if_pos hq,if_neg hc]; rfl
 ·skip
  refine eV (t := !kv) ((by rw [show kv=false from by simpa using hq]; rfl)) ?_
  refine go0 8 [.cl 135 #[Vi 9] (.agg #[Vi 5,Vi 9,Ve]),.b 0 0] [] ?_ (ho:=(And.intro (fun H sH=>xK 9 _) (trivial)))
  refine hQ.to [.agg #[Vi 5,Vi 9,Ve]] (fun H sH=>?_) (ix:=[0])
  rw [hap,if_neg hq]; rfl
theorem apply_6 (x y:Vl) (sl:Value) (h:Vw) (hr:RS h 3 sl (vrows [x,y])) (hk:∀ v∈[x,y],v.known):C0 Tryz.prog 139 #[.int .i64 6,sl] h (fun v _=>v=(nJ 6 [x,y]).val):=by
 obtain ⟨b,o,cap,rfl,c0⟩:=row0 hr
 have kx:=hk x (by simp)
 have ky:=hk y (by simp)
 have c1:Cells h b (o + 1 * 3) y.cells:=hr.cell (i:=1) rfl
 have hki:=fun H hq=>oV [x,y] (.slice (some ⟨b,o,none⟩) 2 cap) 1 H hq (by simp)
 have hap:nJ 6 [x,y]=if nV [x,y] 1=true then nrV 6 x.n y.n else wK 9:=by unfold nJ; rw [if_neg (by omega),if_neg (by omega),if_neg (by omega),if_neg (by omega),if_neg (by omega),hd0,hd1]
 have hnr:nrV 6 x.n y.n=if (iW 6 x.n y.n).2=0 then ⟨1,(iW 6 x.n y.n).1,⟨#[]⟩⟩ else wK (iW 6 x.n y.n).2:=rfl
 rw [hnr] at hap
 have hl:=fun q=>pV (l:=[x,y]) hk q
 have hn:=fun (q:nV [x,y] 1=true) H=>num_any 6 x.n y.n H (hl q x (by simp)) (hl q y (by simp))
 generalize iW 6 x.n y.n=r at *
 generalize nV [x,y] 1=kv at *
 refine oQ Tryz.func139 (c:=Tryz.f139.body.getD .skip) (N:=147) ?_
 intro hbx hbad Q hQ
 refine pQ (c0.sees (Sees.refl _)) ?_
 refine pQ (c1.sees (Sees.refl _)) ?_
 refine go1 72 [.own,.cl 169 #[.slice (some ⟨b,o,none⟩) 2 cap,Vi 1] (.bool kv)] [] ?_ (ho:=(And.intro (fun H sH=>hki _ (hr.sees sH)) (trivial)))
 intro b1
 by_cases hq:kv=true
 ·skip
  refine qQ (t := !kv) ((by rw [hq]; rfl)) ?_
  refine go0 4 [] [] ?_
  refine g_mapmake ?_; intro b2
  refine yQ 0 b2 (es:=[]) (td:=.int .i64) (key:=Vi 5) (by kernel_rfl) ?_
  refine yQ 0 b2 (es:=[(Vi 5,.func (.func 170) #[] #[])]) (td:=.int .i64) (key:=Vi 6) (by kernel_rfl) ?_
  refine yQ 0 b2 (es:=[(Vi 5,.func (.func 170) #[] #[]),(Vi 6,.func (.func 171) #[] #[])]) (td:=.int .i64) (key:=Vi 7) (by kernel_rfl) ?_
  refine yQ 0 b2 (es:=[(Vi 5,.func (.func 170) #[] #[]),(Vi 6,.func (.func 171) #[] #[]),(Vi 7,.func (.func 172) #[] #[])]) (td:=.int .i64) (key:=Vi 8) (by kernel_rfl) ?_
  refine yQ 0 b2 (es:=[(Vi 5,.func (.func 170) #[] #[]),(Vi 6,.func (.func 171) #[] #[]),(Vi 7,.func (.func 172) #[] #[]),(Vi 8,.func (.func 173) #[] #[])]) (td:=.int .i64) (key:=Vi 9) (by kernel_rfl) ?_
  refine go0 2 [] [] ?_
  refine g_mapget 0 b2 (es:=[(Vi 5,.func (.func 170) #[] #[]),(Vi 6,.func (.func 171) #[] #[]),(Vi 7,.func (.func 172) #[] #[]),(Vi 8,.func (.func 173) #[] #[]),(Vi 9,.func (.func 174) #[] #[])]) (td:=.int .i64) (key:=Vi 6) (r:=some (1,.func (.func 171) #[] #[])) .nilFunc (.func (.func 171) #[] #[]) (by kernel_rfl) ?_
  refine go0 4 [] [] ?_
  refine cV 13 0 [.pu,.v (fun gh=>.pointer (some ⟨b,o + 0 * 3,none⟩)),.pu,.lf 1 1,.pu,.pu,.pu,.pu,.v (fun gh=>.pointer (some ⟨b,o + 1 * 3,none⟩)),.pu,.lf 0 1,.pu,.pu] [] (trivial) ?_ ?_
  ·intro R hT hA hmono
   refine And.intro (rY hT hA b o 2 cap 0 (fun gh=>.pointer (some ⟨b,o + 0 * 3,none⟩)) ((by decide))) ?_
   refine And.intro (rY hT hA b o 2 cap 1 (fun gh=>.pointer (some ⟨b,o + 1 * 3,none⟩)) ((by decide))) ?_
   trivial
  rintro W3 S4 -
  refine go0 31 [.cl 171 #[Vi x.n,Vi y.n] (.tuple #[Vi r.1,Vi r.2])] [] ?_ (ho:=(And.intro (fun H sH=>hn hq _) (trivial)))
  by_cases hc:r.2=0
  ·refine qQ (t:=r.2 != 0) (bne_eq_false_iff_eq.2 hc) ?_
   refine go0 10 [.b 1 0] [] ?_
   refine hQ.to [.agg #[Vi 1,Vi r.1,Ve]] (fun H sH=>?_) (ix:=[1])
   rw [hap,if_pos hq,if_pos hc]; rfl
  ·skip
   refine eV (t:=r.2 != 0) (bne_iff_ne.2 hc) ?_
   refine go0 9 [.cl 135 #[Vi r.2] (.agg #[Vi 5,Vi r.2,Ve]),.b 1 0] [] ?_ (ho:=(And.intro (fun H sH=>xK _ _) (trivial)))
   refine hQ.to [.agg #[Vi 5,Vi r.2,Ve]] (fun H sH=>?_) (ix:=[1])
   rw [hap,if_pos hq,if_neg hc]; rfl
 ·skip
  refine eV (t := !kv) ((by rw [show kv=false from by simpa using hq]; rfl)) ?_
  refine go0 8 [.cl 135 #[Vi 9] (.agg #[Vi 5,Vi 9,Ve]),.b 0 0] [] ?_ (ho:=(And.intro (fun H sH=>xK 9 _) (trivial)))
  refine hQ.to [.agg #[Vi 5,Vi 9,Ve]] (fun H sH=>?_) (ix:=[0])
  rw [hap,if_neg hq]; rfl
theorem apply_7 (x y:Vl) (sl:Value) (h:Vw) (hr:RS h 3 sl (vrows [x,y])) (hk:∀ v∈[x,y],v.known):C0 Tryz.prog 139 #[.int .i64 7,sl] h (fun v _=>v=(nJ 7 [x,y]).val):=by
 obtain ⟨b,o,cap,rfl,c0⟩:=row0 hr
 have kx:=hk x (by simp)
 have ky:=hk y (by simp)
 have c1:Cells h b (o + 1 * 3) y.cells:=hr.cell (i:=1) rfl
 have hki:=fun H hq=>oV [x,y] (.slice (some ⟨b,o,none⟩) 2 cap) 1 H hq (by simp)
 have hap:nJ 7 [x,y]=if nV [x,y] 1=true then nrV 7 x.n y.n else wK 9:=by unfold nJ; rw [if_neg (by omega),if_neg (by omega),if_neg (by omega),if_neg (by omega),if_neg (by omega),hd0,hd1]
 have hnr:nrV 7 x.n y.n=if (iW 7 x.n y.n).2=0 then ⟨1,(iW 7 x.n y.n).1,⟨#[]⟩⟩ else wK (iW 7 x.n y.n).2:=rfl
 rw [hnr] at hap
 have hl:=fun q=>pV (l:=[x,y]) hk q
 have hn:=fun (q:nV [x,y] 1=true) H=>num_any 7 x.n y.n H (hl q x (by simp)) (hl q y (by simp))
 generalize iW 7 x.n y.n=r at *
 generalize nV [x,y] 1=kv at *
 refine oQ Tryz.func139 (c:=Tryz.f139.body.getD .skip) (N:=147) ?_
 intro hbx hbad Q hQ
 refine pQ (c0.sees (Sees.refl _)) ?_
 refine pQ (c1.sees (Sees.refl _)) ?_
 refine go1 72 [.own,.cl 169 #[.slice (some ⟨b,o,none⟩) 2 cap,Vi 1] (.bool kv)] [] ?_ (ho:=(And.intro (fun H sH=>hki _ (hr.sees sH)) (trivial)))
 intro b1
 by_cases hq:kv=true
 ·skip
  refine qQ (t := !kv) ((by rw [hq]; rfl)) ?_
  refine go0 4 [] [] ?_
  refine g_mapmake ?_; intro b2
  refine yQ 0 b2 (es:=[]) (td:=.int .i64) (key:=Vi 5) (by kernel_rfl) ?_
  refine yQ 0 b2 (es:=[(Vi 5,.func (.func 170) #[] #[])]) (td:=.int .i64) (key:=Vi 6) (by kernel_rfl) ?_
  refine yQ 0 b2 (es:=[(Vi 5,.func (.func 170) #[] #[]),(Vi 6,.func (.func 171) #[] #[])]) (td:=.int .i64) (key:=Vi 7) (by kernel_rfl) ?_
  refine yQ 0 b2 (es:=[(Vi 5,.func (.func 170) #[] #[]),(Vi 6,.func (.func 171) #[] #[]),(Vi 7,.func (.func 172) #[] #[])]) (td:=.int .i64) (key:=Vi 8) (by kernel_rfl) ?_
  refine yQ 0 b2 (es:=[(Vi 5,.func (.func 170) #[] #[]),(Vi 6,.func (.func 171) #[] #[]),(Vi 7,.func (.func 172) #[] #[]),(Vi 8,.func (.func 173) #[] #[])]) (td:=.int .i64) (key:=Vi 9) (by kernel_rfl) ?_
  refine go0 2 [] [] ?_
  refine g_mapget 0 b2 (es:=[(Vi 5,.func (.func 170) #[] #[]),(Vi 6,.func (.func 171) #[] #[]),(Vi 7,.func (.func 172) #[] #[]),(Vi 8,.func (.func 173) #[] #[]),(Vi 9,.func (.func 174) #[] #[])]) (td:=.int .i64) (key:=Vi 7) (r:=some (2,.func (.func 172) #[] #[])) .nilFunc (.func (.func 172) #[] #[]) (by kernel_rfl) ?_
  refine go0 4 [] [] ?_
  refine cV 13 0 [.pu,.v (fun gh=>.pointer (some ⟨b,o + 0 * 3,none⟩)),.pu,.lf 1 1,.pu,.pu,.pu,.pu,.v (fun gh=>.pointer (some ⟨b,o + 1 * 3,none⟩)),.pu,.lf 0 1,.pu,.pu] [] (trivial) ?_ ?_
  ·intro R hT hA hmono
   refine And.intro (rY hT hA b o 2 cap 0 (fun gh=>.pointer (some ⟨b,o + 0 * 3,none⟩)) ((by decide))) ?_
   refine And.intro (rY hT hA b o 2 cap 1 (fun gh=>.pointer (some ⟨b,o + 1 * 3,none⟩)) ((by decide))) ?_
   trivial
  rintro W3 S4 -
  refine go0 31 [.cl 172 #[Vi x.n,Vi y.n] (.tuple #[Vi r.1,Vi r.2])] [] ?_ (ho:=(And.intro (fun H sH=>hn hq _) (trivial)))
  by_cases hc:r.2=0
  ·refine qQ (t:=r.2 != 0) (bne_eq_false_iff_eq.2 hc) ?_
   refine go0 10 [.b 1 0] [] ?_
   refine hQ.to [.agg #[Vi 1,Vi r.1,Ve]] (fun H sH=>?_) (ix:=[1])
   rw [hap,if_pos hq,if_pos hc]; rfl
  ·skip
   refine eV (t:=r.2 != 0) (bne_iff_ne.2 hc) ?_
   refine go0 9 [.cl 135 #[Vi r.2] (.agg #[Vi 5,Vi r.2,Ve]),.b 1 0] [] ?_ (ho:=(And.intro (fun H sH=>xK _ _) (trivial)))
   refine hQ.to [.agg #[Vi 5,Vi r.2,Ve]] (fun H sH=>?_) (ix:=[1])
   rw [hap,if_pos hq,if_neg hc]; rfl
 ·skip
  refine eV (t := !kv) ((by rw [show kv=false from by simpa using hq]; rfl)) ?_
  refine go0 8 [.cl 135 #[Vi 9] (.agg #[Vi 5,Vi 9,Ve]),.b 0 0] [] ?_ (ho:=(And.intro (fun H sH=>xK 9 _) (trivial)))
  refine hQ.to [.agg #[Vi 5,Vi 9,Ve]] (fun H sH=>?_) (ix:=[0])
  rw [hap,if_neg hq]; rfl
theorem apply_8 (x y:Vl) (sl:Value) (h:Vw) (hr:RS h 3 sl (vrows [x,y])) (hk:∀ v∈[x,y],v.known):C0 Tryz.prog 139 #[.int .i64 8,sl] h (fun v _=>v=(nJ 8 [x,y]).val):=by
 obtain ⟨b,o,cap,rfl,c0⟩:=row0 hr
 have kx:=hk x (by simp)
 have ky:=hk y (by simp)
 have c1:Cells h b (o + 1 * 3) y.cells:=hr.cell (i:=1) rfl
 have hki:=fun H hq=>oV [x,y] (.slice (some ⟨b,o,none⟩) 2 cap) 1 H hq (by simp)
 have hap:nJ 8 [x,y]=if nV [x,y] 1=true then nrV 8 x.n y.n else wK 9:=by unfold nJ; rw [if_neg (by omega),if_neg (by omega),if_neg (by omega),if_neg (by omega),if_neg (by omega),hd0,hd1]
 have hnr:nrV 8 x.n y.n=if (iW 8 x.n y.n).2=0 then ⟨1,(iW 8 x.n y.n).1,⟨#[]⟩⟩ else wK (iW 8 x.n y.n).2:=rfl
 rw [hnr] at hap
 have hl:=fun q=>pV (l:=[x,y]) hk q
 have hn:=fun (q:nV [x,y] 1=true) H=>num_any 8 x.n y.n H (hl q x (by simp)) (hl q y (by simp))
 generalize iW 8 x.n y.n=r at *
 generalize nV [x,y] 1=kv at *
 refine oQ Tryz.func139 (c:=Tryz.f139.body.getD .skip) (N:=147) ?_
 intro hbx hbad Q hQ
 refine pQ (c0.sees (Sees.refl _)) ?_
 refine pQ (c1.sees (Sees.refl _)) ?_
 refine go1 72 [.own,.cl 169 #[.slice (some ⟨b,o,none⟩) 2 cap,Vi 1] (.bool kv)] [] ?_ (ho:=(And.intro (fun H sH=>hki _ (hr.sees sH)) (trivial)))
 intro b1
 by_cases hq:kv=true
 ·skip
  refine qQ (t := !kv) ((by rw [hq]; rfl)) ?_
  refine go0 4 [] [] ?_
  refine g_mapmake ?_; intro b2
  refine yQ 0 b2 (es:=[]) (td:=.int .i64) (key:=Vi 5) (by kernel_rfl) ?_
  refine yQ 0 b2 (es:=[(Vi 5,.func (.func 170) #[] #[])]) (td:=.int .i64) (key:=Vi 6) (by kernel_rfl) ?_
  refine yQ 0 b2 (es:=[(Vi 5,.func (.func 170) #[] #[]),(Vi 6,.func (.func 171) #[] #[])]) (td:=.int .i64) (key:=Vi 7) (by kernel_rfl) ?_
  refine yQ 0 b2 (es:=[(Vi 5,.func (.func 170) #[] #[]),(Vi 6,.func (.func 171) #[] #[]),(Vi 7,.func (.func 172) #[] #[])]) (td:=.int .i64) (key:=Vi 8) (by kernel_rfl) ?_
  refine yQ 0 b2 (es:=[(Vi 5,.func (.func 170) #[] #[]),(Vi 6,.func (.func 171) #[] #[]),(Vi 7,.func (.func 172) #[] #[]),(Vi 8,.func (.func 173) #[] #[])]) (td:=.int .i64) (key:=Vi 9) (by kernel_rfl) ?_
  refine go0 2 [] [] ?_
  refine g_mapget 0 b2 (es:=[(Vi 5,.func (.func 170) #[] #[]),(Vi 6,.func (.func 171) #[] #[]),(Vi 7,.func (.func 172) #[] #[]),(Vi 8,.func (.func 173) #[] #[]),(Vi 9,.func (.func 174) #[] #[])]) (td:=.int .i64) (key:=Vi 8) (r:=some (3,.func (.func 173) #[] #[])) .nilFunc (.func (.func 173) #[] #[]) (by kernel_rfl) ?_
  refine go0 4 [] [] ?_
  refine cV 13 0 [.pu,.v (fun gh=>.pointer (some ⟨b,o + 0 * 3,none⟩)),.pu,.lf 1 1,.pu,.pu,.pu,.pu,.v (fun gh=>.pointer (some ⟨b,o + 1 * 3,none⟩)),.pu,.lf 0 1,.pu,.pu] [] (trivial) ?_ ?_
  ·intro R hT hA hmono
   refine And.intro (rY hT hA b o 2 cap 0 (fun gh=>.pointer (some ⟨b,o + 0 * 3,none⟩)) ((by decide))) ?_
   refine And.intro (rY hT hA b o 2 cap 1 (fun gh=>.pointer (some ⟨b,o + 1 * 3,none⟩)) ((by decide))) ?_
   trivial
  rintro W3 S4 -
  refine go0 31 [.cl 173 #[Vi x.n,Vi y.n] (.tuple #[Vi r.1,Vi r.2])] [] ?_ (ho:=(And.intro (fun H sH=>hn hq _) (trivial)))
  by_cases hc:r.2=0
  ·refine qQ (t:=r.2 != 0) (bne_eq_false_iff_eq.2 hc) ?_
   refine go0 10 [.b 1 0] [] ?_
   refine hQ.to [.agg #[Vi 1,Vi r.1,Ve]] (fun H sH=>?_) (ix:=[1])
   rw [hap,if_pos hq,if_pos hc]; rfl
  ·skip
   refine eV (t:=r.2 != 0) (bne_iff_ne.2 hc) ?_
   refine go0 9 [.cl 135 #[Vi r.2] (.agg #[Vi 5,Vi r.2,Ve]),.b 1 0] [] ?_ (ho:=(And.intro (fun H sH=>xK _ _) (trivial)))
   refine hQ.to [.agg #[Vi 5,Vi r.2,Ve]] (fun H sH=>?_) (ix:=[1])
   rw [hap,if_pos hq,if_neg hc]; rfl
 ·skip
  refine eV (t := !kv) ((by rw [show kv=false from by simpa using hq]; rfl)) ?_
  refine go0 8 [.cl 135 #[Vi 9] (.agg #[Vi 5,Vi 9,Ve]),.b 0 0] [] ?_ (ho:=(And.intro (fun H sH=>xK 9 _) (trivial)))
  refine hQ.to [.agg #[Vi 5,Vi 9,Ve]] (fun H sH=>?_) (ix:=[0])
  rw [hap,if_neg hq]; rfl
theorem apply_9 (x y:Vl) (sl:Value) (h:Vw) (hr:RS h 3 sl (vrows [x,y])) (hk:∀ v∈[x,y],v.known):C0 Tryz.prog 139 #[.int .i64 9,sl] h (fun v _=>v=(nJ 9 [x,y]).val):=by
 obtain ⟨b,o,cap,rfl,c0⟩:=row0 hr
 have kx:=hk x (by simp)
 have ky:=hk y (by simp)
 have c1:Cells h b (o + 1 * 3) y.cells:=hr.cell (i:=1) rfl
 have hki:=fun H hq=>oV [x,y] (.slice (some ⟨b,o,none⟩) 2 cap) 1 H hq (by simp)
 have hap:nJ 9 [x,y]=if nV [x,y] 1=true then nrV 9 x.n y.n else wK 9:=by unfold nJ; rw [if_neg (by omega),if_neg (by omega),if_neg (by omega),if_neg (by omega),if_neg (by omega),hd0,hd1]
 have hnr:nrV 9 x.n y.n=if (iW 9 x.n y.n).2=0 then ⟨1,(iW 9 x.n y.n).1,⟨#[]⟩⟩ else wK (iW 9 x.n y.n).2:=rfl
 rw [hnr] at hap
 have hl:=fun q=>pV (l:=[x,y]) hk q
 have hn:=fun (q:nV [x,y] 1=true) H=>num_any 9 x.n y.n H (hl q x (by simp)) (hl q y (by simp))
 generalize iW 9 x.n y.n=r at *
 generalize nV [x,y] 1=kv at *
 refine oQ Tryz.func139 (c:=Tryz.f139.body.getD .skip) (N:=147) ?_
 intro hbx hbad Q hQ
 refine pQ (c0.sees (Sees.refl _)) ?_
 refine pQ (c1.sees (Sees.refl _)) ?_
 refine go1 72 [.own,.cl 169 #[.slice (some ⟨b,o,none⟩) 2 cap,Vi 1] (.bool kv)] [] ?_ (ho:=(And.intro (fun H sH=>hki _ (hr.sees sH)) (trivial)))
 intro b1
 by_cases hq:kv=true
 ·skip
  refine qQ (t := !kv) ((by rw [hq]; rfl)) ?_
  refine go0 4 [] [] ?_
  refine g_mapmake ?_; intro b2
  refine yQ 0 b2 (es:=[]) (td:=.int .i64) (key:=Vi 5) (by kernel_rfl) ?_
  refine yQ 0 b2 (es:=[(Vi 5,.func (.func 170) #[] #[])]) (td:=.int .i64) (key:=Vi 6) (by kernel_rfl) ?_
  refine yQ 0 b2 (es:=[(Vi 5,.func (.func 170) #[] #[]),(Vi 6,.func (.func 171) #[] #[])]) (td:=.int .i64) (key:=Vi 7) (by kernel_rfl) ?_
  refine yQ 0 b2 (es:=[(Vi 5,.func (.func 170) #[] #[]),(Vi 6,.func (.func 171) #[] #[]),(Vi 7,.func (.func 172) #[] #[])]) (td:=.int .i64) (key:=Vi 8) (by kernel_rfl) ?_
  refine yQ 0 b2 (es:=[(Vi 5,.func (.func 170) #[] #[]),(Vi 6,.func (.func 171) #[] #[]),(Vi 7,.func (.func 172) #[] #[]),(Vi 8,.func (.func 173) #[] #[])]) (td:=.int .i64) (key:=Vi 9) (by kernel_rfl) ?_
  refine go0 2 [] [] ?_
  refine g_mapget 0 b2 (es:=[(Vi 5,.func (.func 170) #[] #[]),(Vi 6,.func (.func 171) #[] #[]),(Vi 7,.func (.func 172) #[] #[]),(Vi 8,.func (.func 173) #[] #[]),(Vi 9,.func (.func 174) #[] #[])]) (td:=.int .i64) (key:=Vi 9) (r:=some (4,.func (.func 174) #[] #[])) .nilFunc (.func (.func 174) #[] #[]) (by kernel_rfl) ?_
  refine go0 4 [] [] ?_
  refine cV 13 0 [.pu,.v (fun gh=>.pointer (some ⟨b,o + 0 * 3,none⟩)),.pu,.lf 1 1,.pu,.pu,.pu,.pu,.v (fun gh=>.pointer (some ⟨b,o + 1 * 3,none⟩)),.pu,.lf 0 1,.pu,.pu] [] (trivial) ?_ ?_
  ·intro R hT hA hmono
   refine And.intro (rY hT hA b o 2 cap 0 (fun gh=>.pointer (some ⟨b,o + 0 * 3,none⟩)) ((by decide))) ?_
   refine And.intro (rY hT hA b o 2 cap 1 (fun gh=>.pointer (some ⟨b,o + 1 * 3,none⟩)) ((by decide))) ?_
   trivial
  rintro W3 S4 -
  refine go0 31 [.cl 174 #[Vi x.n,Vi y.n] (.tuple #[Vi r.1,Vi r.2])] [] ?_ (ho:=(And.intro (fun H sH=>hn hq _) (trivial)))
  by_cases hc:r.2=0
  ·refine qQ (t:=r.2 != 0) (bne_eq_false_iff_eq.2 hc) ?_
   refine go0 10 [.b 1 0] [] ?_
   refine hQ.to [.agg #[Vi 1,Vi r.1,Ve]] (fun H sH=>?_) (ix:=[1])
   rw [hap,if_pos hq,if_pos hc]; rfl
  ·skip
   refine eV (t:=r.2 != 0) (bne_iff_ne.2 hc) ?_
   refine go0 9 [.cl 135 #[Vi r.2] (.agg #[Vi 5,Vi r.2,Ve]),.b 1 0] [] ?_ (ho:=(And.intro (fun H sH=>xK _ _) (trivial)))
   refine hQ.to [.agg #[Vi 5,Vi r.2,Ve]] (fun H sH=>?_) (ix:=[1])
   rw [hap,if_pos hq,if_neg hc]; rfl
 ·skip
  refine eV (t := !kv) ((by rw [show kv=false from by simpa using hq]; rfl)) ?_
  refine go0 8 [.cl 135 #[Vi 9] (.agg #[Vi 5,Vi 9,Ve]),.b 0 0] [] ?_ (ho:=(And.intro (fun H sH=>xK 9 _) (trivial)))
  refine hQ.to [.agg #[Vi 5,Vi 9,Ve]] (fun H sH=>?_) (ix:=[0])
  rw [hap,if_neg hq]; rfl
theorem apply_any (op:Int) (l:List Vl) (sl:Value) (h:Vw) (hr:RS h 3 sl (vrows l)) (hk:∀ v∈l,v.known) (h1:3≤op) (h2:op≤18) (h15:op≠15) (h16:op≠16) (h17:op≠17) (hl:l.length=arity op) :
  C0 Tryz.prog 139 #[.int .i64 op,sl] h (fun v _=>v=(nJ op l).val):=by
 have e1:∀ {l:List Vl},l.length=1→∃ x,l=[x]:=fun {l} h=>by
  cases l with
  | nil=>cases h
  | cons x l=>cases l with
   | nil=>exact ⟨x,rfl⟩
   | cons y l=>simp at h
 have e2:∀ {l:List Vl},l.length=2→∃ x y,l=[x,y]:=fun {l} h=>by
  cases l with
  | nil=>cases h
  | cons x l =>
   cases l with
   | nil=>simp at h
   | cons y l=>cases l with
    | nil=>exact ⟨x,y,rfl⟩
    | cons z l=>simp at h
 obtain rfl | rfl | rfl | rfl | rfl | rfl | rfl | rfl | rfl | rfl | rfl | rfl | rfl:op=3∨op=4∨op=5∨op=6∨op=7∨op=8∨op=9∨op=10∨op=11∨op=12∨op=13∨op=14∨op=18:=by omega
 ·obtain ⟨x,rfl⟩:=e1 hl; exact apply_3 x sl h hr hk
 ·obtain ⟨x,rfl⟩:=e1 hl; exact apply_4 x sl h hr hk
 ·obtain ⟨x,y,rfl⟩:=e2 hl; exact apply_5 x y sl h hr hk
 ·obtain ⟨x,y,rfl⟩:=e2 hl; exact apply_6 x y sl h hr hk
 ·obtain ⟨x,y,rfl⟩:=e2 hl; exact apply_7 x y sl h hr hk
 ·obtain ⟨x,y,rfl⟩:=e2 hl; exact apply_8 x y sl h hr hk
 ·obtain ⟨x,y,rfl⟩:=e2 hl; exact apply_9 x y sl h hr hk
 ·obtain ⟨x,y,rfl⟩:=e2 hl; exact apply_10 x y sl h hr hk
 ·obtain ⟨x,y,rfl⟩:=e2 hl; exact apply_11 x y sl h hr hk
 ·obtain ⟨x,y,rfl⟩:=e2 hl; exact apply_12 x y sl h hr hk
 ·obtain ⟨x,y,rfl⟩:=e2 hl; exact apply_13 x y sl h hr hk
 ·obtain ⟨x,y,rfl⟩:=e2 hl; exact apply_14 x y sl h hr hk
 ·obtain ⟨x,rfl⟩:=e1 hl; exact apply_18 x sl h hr hk
end Go.Proofs.YtmoahpojchndiaaGreat
namespace Go.Proofs.YtmoahpojchndiaaGreat
open Go.RowKit
abbrev mK (env:Env):List (Value × Value):=oY (env.map fun p=>(p.1,p.2.val))
theorem sget_env (s:ByteArray):∀ env:Env,sget s (env.map fun p=>(p.1,p.2.val))=(env.get s).map Vl.val
 | []=>rfl
 | (k,v) :: l=>by
  simp only [List.map_cons]
  unfold sget Env.get
  cases s == k
  ·simp only [Bool.false_eq_true,if_false]; exact sget_env s l
  ·rfl
def EnvOk (env:Env):Prop:=∀ s v,env.get s=some v→OkV v
theorem arity_pos {op:Int} (h1:3≤op) (h2:op≤18):1≤arity op∧arity op≤3:=by
 unfold arity
 rw [if_neg (by omega)]
 repeat' split
 all_goals omega
theorem applyV_ok {op:Int} {l:List Vl} (hk:∀ v∈l,v.known) (hl:1≤l.length) (hl2:op=10∨(5≤op∧op≤9)→2≤l.length) (h3:3≤op) (h18:op≤18) (hx:op≠15∧op≠16∧op≠17):OkV (nJ op l):=by
 have h0:hdV l 0∈l:=by
  cases l with
  | nil=>simp at hl
  | cons x l=>exact List.mem_cons_self
 have h1:2≤l.length→hdV l 1∈l:=fun h=>by
  cases l with
  | nil=>simp at h
  | cons x l =>
   cases l with
   | nil=>simp at h
   | cons y l=>simp [hdV]
 unfold nJ
 split
 ·split
  ·exact ok_truth _
  ·exact lW (by omega) (by omega)
 ·split
  ·split
   ·exact ok_truth _
   ·exact lW (by omega) (by omega)
  ·split
   ·split
    ·rename_i hq
     have:=known_texts hk hq _ h0
     exact .inl (.inl ⟨rfl,by unfold Lim; simp only; omega,rfl⟩)
    ·exact lW (by omega) (by omega)
   ·split
    ·rename_i h10
     split
     ·rename_i hq
      have k0:=hk _ h0
      have k1:=hk _ (h1 (hl2 (.inl h10)))
      have e0:(hdV l 0).k=3:=by unfold nV at hq; rw [List.all_eq_true] at hq; simpa using hq _ h0
      have e1:(hdV l 1).k=3:=by unfold nV at hq; rw [List.all_eq_true] at hq; simpa using hq _ (h1 (hl2 (.inl h10)))
      generalize hdV l 0=x at *
      generalize hdV l 1=y at *
      unfold joinV
      split
      ·exact lW (by omega) (by omega)
      ·rename_i hc
       rcases k0 with g | g | g
       ·omega
       ·omega
       ·rcases k1 with q | q | q
        ·omega
        ·omega
        ·refine .inl (.inr (.inr ⟨rfl,rfl,by simp [ByteArray.size_append]; omega,fun i hi=>?_⟩))
         have hs:(x.s++y.s).size=x.s.size + y.s.size:=ByteArray.size_append ..
         have hi':i < x.s.size + y.s.size:=by rw [← hs]; exact hi
         show 32≤(x.s++y.s)[i].toNat∧_
         by_cases hlt:i < x.s.size
         ·rw [ByteArray.getElem_append_left hlt]; exact g.2.2.2 i hlt
         ·rw [ByteArray.getElem_append_right (by omega)]; exact q.2.2.2 _ (by omega)
     ·exact lW (by omega) (by omega)
    ·split
     ·split
      ·rename_i hq
       exact nrV_ok (by unfold Lim; omega) (pV hk hq _ h0)
      ·exact lW (by omega) (by omega)
     ·split
      ·rename_i hq
       exact nrV_ok (pV hk hq _ h0) (pV hk hq _ (h1 (hl2 (.inr (by omega)))))
      ·exact lW (by omega) (by omega)
theorem lack_some {u:Vl}:∀ {l:List Vl} {p:Option Vl},rV p l=some u→(∀ w,p=some w→w.k=4)→(u.k=5∨u.k=4)∧(p=some u∨u∈l)
 | [],p,h,hp=>by
  unfold rV at h
  exact ⟨.inr (hp u h),.inl h⟩
 | v :: l,p,h,hp=>by
  unfold rV at h
  split at h
  ·simp only [Option.some.injEq] at h; subst h; rename_i h5; exact ⟨.inl h5,.inr (by simp)⟩
  ·by_cases h4:v.k=4
   ·rw [if_pos h4] at h
    obtain ⟨h1,h2⟩:=lack_some h (fun w hw=>by simp only [Option.some.injEq] at hw; subst hw; exact h4)
    refine ⟨h1,.inr ?_⟩
    rcases h2 with h2 | h2
    ·simp only [Option.some.injEq] at h2; subst h2; simp
    ·simp [h2]
   ·rw [if_neg h4] at h
    obtain ⟨h1,h2⟩:=lack_some h hp
    exact ⟨h1,h2.imp id (fun k=>by simp [k])⟩
theorem lack_none:∀ {l:List Vl} {p:Option Vl},rV p l=none→p=none∧∀ v∈l,v.k≠5∧v.k≠4
 | [],p,h=>⟨h,fun v hv=>by cases hv⟩
 | v :: l,p,h=>by
  unfold rV at h
  split at h
  ·cases h
  ·rename_i h5
   obtain ⟨h1,h2⟩:=lack_none h
   by_cases h4:v.k=4
   ·rw [if_pos h4] at h1; cases h1
   ·rw [if_neg h4] at h1
    refine ⟨h1,fun u hu=>?_⟩
    rcases List.mem_cons.1 hu with rfl | hu
    ·exact ⟨h5,h4⟩
    ·exact h2 u hu
theorem firstV_ok {v:Vl} (h:OkV v):OkV (fQ v).1:=by
 unfold fQ
 split
 ·exact lW (by omega) (by omega)
 ·exact h
theorem boolV_ok {v:Vl} (h:OkV v):OkV (xJ v):=by
 unfold xJ
 split
 ·exact lW (by omega) (by omega)
 ·exact h
theorem hdV_mem {l:List Vl} {i:Nat} (h:i < l.length):hdV l i∈l:=by
 unfold hdV
 rw [List.getD_eq_getElem?_getD,List.getElem?_eq_getElem h]
 exact List.getElem_mem h
theorem evalE_ok {env:Env} (he:EnvOk env):∀ (m:Nat) (x:Ex),(szE x).1≤m→WfE x→OkV (nK env x)
 | 0,x,h,_=>by have:=szE_pos x; omega
 | m + 1,x,h,hw=>by
  have hsz:=qY x
  rw [hsz] at h
  simp only at h
  have hl:∀ v∈oK env x.args,OkV v:=by
   intro v hv
   rw [pK] at hv
   obtain ⟨y,hy,rfl⟩:=List.mem_map.1 hv
   exact evalE_ok he m y (by have:=(szL_mem hy).1; omega) (hw.list.get hy)
  have hlen:(oK env x.args).length=x.args.length:=by rw [pK,List.length_map]
  rw [evalE_eq]
  rcases hw.top with ⟨h1,h2,h3,h4,h5⟩ | ⟨h1,h2,h3,h4,h5,h6⟩ | ⟨h1,h2,h3,h4,h5,h6,h7⟩
  ·rw [if_pos h1]; exact .inl h2
  ·rw [if_neg (by omega),if_pos h1]
   cases hg:env.get x.nm with
   | none=>exact lW (by omega) (by omega)
   | some v=>exact he _ _ hg
  ·rw [if_neg (by omega),if_neg (by omega)]
   have hap:=arity_pos h1 h2
   split
   ·rename_i hq
    have ha:arity x.op=2:=by unfold arity; rw [if_neg (by omega),if_neg (by omega),if_neg (by omega)]
    split
    ·exact firstV_ok (hl _ (hdV_mem (by omega)))
    ·exact boolV_ok (hl _ (hdV_mem (by omega)))
   ·split
    ·rename_i hq
     have ha:arity x.op=3:=by rw [hq]; rfl
     split
     ·exact firstV_ok (hl _ (hdV_mem (by omega)))
     ·split
      ·exact hl _ (hdV_mem (by omega))
      ·exact hl _ (hdV_mem (by omega))
    ·rename_i n1 n2
     cases hk:rV none (oK env x.args) with
     | some u =>
      obtain ⟨-,g⟩:=lack_some hk (fun w hw=>by cases hw)
      rcases g with g | g
      ·cases g
      ·exact hl u g
     | none =>
      obtain ⟨-,g⟩:=lack_none hk
      refine applyV_ok (fun v hv=>ok_known (hl v hv) (g v hv).2 (g v hv).1) (by omega) (fun hq=>?_) h1 h2 ⟨by omega,by omega,by omega⟩
      have ha:arity x.op=2:=by
       unfold arity
       rw [if_neg (by omega),if_neg (by omega),if_neg (by omega)]
      omega
def OfAll (env:Env) (b:Nat) (l:List Ex):Prop:=∀ y∈l,∀ v h,IsArgs h y v→MapAt h b (mK env)→C0 Tryz.prog 106 #[.map (some b),.agg #[.int .i64 y.op,.int .i64 y.k,.int .i64 y.n,.string y.s,.string y.nm,v]] h (fun r _=>r=(nK env y).val)
theorem first_any (env:Env) (b:Nat) (x y:Ex) (sl:Value) (h:Vw) (hx:IsArgs h x sl) (hm:MapAt h b (mK env)) (hy:x.args[0]?=some y) (hof:OfAll env b x.args) (hok:OkV (nK env y)) :
  C0 Tryz.prog 136 #[.map (some b),.agg #[.int .i64 x.op,.int .i64 x.k,.int .i64 x.n,.string x.s,.string x.nm,sl]] h (fun r _=>r=.tuple #[(fQ (nK env y)).1.val,.bool (fQ (nK env y)).2]):=by
 obtain ⟨vs,hr,hvs⟩:=hx.form
 obtain ⟨A,c,rfl,-,-,-⟩:=hr.form
 have hvl:=hvs.len
 have hrl:=tK hvl
 have hlt:=(List.getElem?_eq_some_iff.1 hy).1
 rw [hrl] at hr ⊢
 have ho:=hof y (List.mem_of_getElem? hy)
 obtain ⟨u,hu⟩:∃ u,vs[0]?=some u:=⟨_,List.getElem?_eq_getElem (by omega)⟩
 have hyu:=AllArgs.get hvs hy hu
 obtain ⟨Au,nu,cu,rfl⟩:=hyu.slice
 have hrow:(sK x.args vs)[0]?=some (exRow y (.slice Au nu cu)):=by show (List.zipWith exRow _ _)[0]?=_; rw [List.getElem?_zipWith,hy,hu]
 have hk:=ok_kinds hok
 generalize x.args.length=len at *
 generalize nK env y=e at *
 obtain ⟨ek,en,es⟩:=e
 obtain rfl | rfl | rfl | rfl | rfl:ek=1∨ek=2∨ek=3∨ek=4∨ek=5:=by simp only at hk; omega
 ·refine oQ Tryz.func136 (c:=Tryz.f136.body.getD .skip) (N:=31) ?_
  intro hbx hbad Q hQ
  refine go2 12 [.own,.own,.b 1 5] [] ?_
  intro b1 b2
  obtain ⟨b3,o4,rfl,-,c5⟩:=RS.row hr (hrow)
  refine pQ (c5.sees (Sees.refl _)) ?_
  refine go1 35 [.ix b3 o4 len c 0,.f 0 0,.cl 106 #[.map (some b),.agg #[Vi y.op,Vi y.k,Vi y.n,.string y.s,.string y.nm,.slice Au nu cu]] (.agg #[Vi 1,Vi en,.string es]),.own,.b 0 0,.b 0 0,.b 0 0,.b 0 0,.cl 135 #[Vi 9] (.agg #[Vi 5,Vi 9,Ve]),.b 1 0] [] ?_ (ho:=(And.intro (by first | omega | (simp; omega)) (And.intro (fun H sH=>ho _ _ (hyu.sees sH) (hm.sees sH)) (And.intro (fun H sH=>xK 9 _) (trivial)))))
  intro b6
  refine hQ.to [.agg #[Vi 5,Vi 9,Ve],.bool false] (fun H sH=>?_) (ix:=[1])
  exact rfl
 ·refine oQ Tryz.func136 (c:=Tryz.f136.body.getD .skip) (N:=31) ?_
  intro hbx hbad Q hQ
  refine go2 12 [.own,.own,.b 1 5] [] ?_
  intro b1 b2
  obtain ⟨b3,o4,rfl,-,c5⟩:=RS.row hr (hrow)
  refine pQ (c5.sees (Sees.refl _)) ?_
  refine go1 29 [.ix b3 o4 len c 0,.f 0 0,.cl 106 #[.map (some b),.agg #[Vi y.op,Vi y.k,Vi y.n,.string y.s,.string y.nm,.slice Au nu cu]] (.agg #[Vi 2,Vi en,.string es]),.own,.b 0 0,.b 0 0] [] ?_ (ho:=(And.intro (by first | omega | (simp; omega)) (And.intro (fun H sH=>ho _ _ (hyu.sees sH) (hm.sees sH)) (trivial))))
  intro b6
  refine cV 6 0 [.ld 0 0,.pu,.ld 0 0,.pu,.st 1 0,.pu] [] (trivial) ?_ ?_
  ·intros; trivial
  rintro W7 S8 -
  refine go0 2 [] [] ?_
  refine hQ.to [.agg #[Vi 2,Vi en,.string es],.bool true] (fun H sH=>?_) (ix:=[1])
  exact rfl
 ·refine oQ Tryz.func136 (c:=Tryz.f136.body.getD .skip) (N:=31) ?_
  intro hbx hbad Q hQ
  refine go2 12 [.own,.own,.b 1 5] [] ?_
  intro b1 b2
  obtain ⟨b3,o4,rfl,-,c5⟩:=RS.row hr (hrow)
  refine pQ (c5.sees (Sees.refl _)) ?_
  refine go1 35 [.ix b3 o4 len c 0,.f 0 0,.cl 106 #[.map (some b),.agg #[Vi y.op,Vi y.k,Vi y.n,.string y.s,.string y.nm,.slice Au nu cu]] (.agg #[Vi 3,Vi en,.string es]),.own,.b 0 0,.b 0 0,.b 0 0,.b 0 0,.cl 135 #[Vi 9] (.agg #[Vi 5,Vi 9,Ve]),.b 1 0] [] ?_ (ho:=(And.intro (by first | omega | (simp; omega)) (And.intro (fun H sH=>ho _ _ (hyu.sees sH) (hm.sees sH)) (And.intro (fun H sH=>xK 9 _) (trivial)))))
  intro b6
  refine hQ.to [.agg #[Vi 5,Vi 9,Ve],.bool false] (fun H sH=>?_) (ix:=[1])
  exact rfl
 ·refine oQ Tryz.func136 (c:=Tryz.f136.body.getD .skip) (N:=31) ?_
  intro hbx hbad Q hQ
  refine go2 12 [.own,.own,.b 1 5] [] ?_
  intro b1 b2
  obtain ⟨b3,o4,rfl,-,c5⟩:=RS.row hr (hrow)
  refine pQ (c5.sees (Sees.refl _)) ?_
  refine go1 29 [.ix b3 o4 len c 0,.f 0 0,.cl 106 #[.map (some b),.agg #[Vi y.op,Vi y.k,Vi y.n,.string y.s,.string y.nm,.slice Au nu cu]] (.agg #[Vi 4,Vi en,.string es]),.own,.b 0 0,.b 0 0,.b 0 0] [] ?_ (ho:=(And.intro (by first | omega | (simp; omega)) (And.intro (fun H sH=>ho _ _ (hyu.sees sH) (hm.sees sH)) (trivial))))
  intro b6
  refine cV 6 0 [.ld 0 0,.pu,.ld 0 0,.pu,.st 1 0,.pu] [] (trivial) ?_ ?_
  ·intros; trivial
  rintro W7 S8 -
  refine go0 2 [] [] ?_
  refine hQ.to [.agg #[Vi 4,Vi en,.string es],.bool false] (fun H sH=>?_) (ix:=[1])
  exact rfl
 ·refine oQ Tryz.func136 (c:=Tryz.f136.body.getD .skip) (N:=31) ?_
  intro hbx hbad Q hQ
  refine go2 12 [.own,.own,.b 1 5] [] ?_
  intro b1 b2
  obtain ⟨b3,o4,rfl,-,c5⟩:=RS.row hr (hrow)
  refine pQ (c5.sees (Sees.refl _)) ?_
  refine go1 29 [.ix b3 o4 len c 0,.f 0 0,.cl 106 #[.map (some b),.agg #[Vi y.op,Vi y.k,Vi y.n,.string y.s,.string y.nm,.slice Au nu cu]] (.agg #[Vi 5,Vi en,.string es]),.own,.b 0 0,.b 0 0,.b 0 0,.b 0 0] [] ?_ (ho:=(And.intro (by first | omega | (simp; omega)) (And.intro (fun H sH=>ho _ _ (hyu.sees sH) (hm.sees sH)) (trivial))))
  intro b6
  refine cV 6 0 [.ld 0 0,.pu,.ld 0 0,.pu,.st 1 0,.pu] [] (trivial) ?_ ?_
  ·intros; trivial
  rintro W7 S8 -
  refine go0 2 [] [] ?_
  refine hQ.to [.agg #[Vi 5,Vi en,.string es],.bool false] (fun H sH=>?_) (ix:=[1])
  exact rfl
theorem bool_any (env:Env) (b:Nat) (x:Ex) (sl:Value) (h:Vw) (hx:IsArgs h x sl) (hm:MapAt h b (mK env)) (ho:∀ v h,IsArgs h x v→MapAt h b (mK env)→C0 Tryz.prog 106 #[.map (some b),.agg #[.int .i64 x.op,.int .i64 x.k,.int .i64 x.n,.string x.s,.string x.nm,v]] h (fun r _=>r=(nK env x).val)) (hok:OkV (nK env x)) :
  C0 Tryz.prog 137 #[.map (some b),.agg #[.int .i64 x.op,.int .i64 x.k,.int .i64 x.n,.string x.s,.string x.nm,sl]] h (fun r _=>r=(xJ (nK env x)).val):=by
 obtain ⟨A,len,c,rfl⟩:=hx.slice
 have hk:=ok_kinds hok
 generalize nK env x=e at *
 obtain ⟨ek,en,es⟩:=e
 obtain rfl | rfl | rfl | rfl | rfl:ek=1∨ek=2∨ek=3∨ek=4∨ek=5:=by simp only at hk; omega
 ·refine oQ Tryz.func137 (c:=Tryz.f137.body.getD .skip) (N:=19) ?_
  intro hbx hbad Q hQ
  refine go3 37 [.own,.own,.b 1 0,.cl 106 #[.map (some b),.agg #[Vi x.op,Vi x.k,Vi x.n,.string x.s,.string x.nm,.slice A len c]] (.agg #[Vi 1,Vi en,.string es]),.own,.b 0 0,.b 0 0,.cl 135 #[Vi 9] (.agg #[Vi 5,Vi 9,Ve]),.b 1 0] [] ?_ (ho:=(And.intro (fun H sH=>ho _ _ (hx.sees sH) (hm.sees sH)) (And.intro (fun H sH=>xK 9 _) (trivial))))
  intro b1 b2 b3
  refine hQ.to [.agg #[Vi 5,Vi 9,Ve]] (fun H sH=>?_) (ix:=[1])
  exact rfl
 ·refine oQ Tryz.func137 (c:=Tryz.f137.body.getD .skip) (N:=19) ?_
  intro hbx hbad Q hQ
  refine go3 38 [.own,.own,.b 1 0,.cl 106 #[.map (some b),.agg #[Vi x.op,Vi x.k,Vi x.n,.string x.s,.string x.nm,.slice A len c]] (.agg #[Vi 2,Vi en,.string es]),.own,.b 0 0,.b 0 0,.b 0 0,.b 0 0,.b 1 0] [] ?_ (ho:=(And.intro (fun H sH=>ho _ _ (hx.sees sH) (hm.sees sH)) (trivial)))
  intro b1 b2 b3
  refine hQ.to [.agg #[Vi 2,Vi en,.string es]] (fun H sH=>?_) (ix:=[1])
  exact rfl
 ·refine oQ Tryz.func137 (c:=Tryz.f137.body.getD .skip) (N:=19) ?_
  intro hbx hbad Q hQ
  refine go3 37 [.own,.own,.b 1 0,.cl 106 #[.map (some b),.agg #[Vi x.op,Vi x.k,Vi x.n,.string x.s,.string x.nm,.slice A len c]] (.agg #[Vi 3,Vi en,.string es]),.own,.b 0 0,.b 0 0,.b 0 0,.cl 135 #[Vi 9] (.agg #[Vi 5,Vi 9,Ve]),.b 1 0] [] ?_ (ho:=(And.intro (fun H sH=>ho _ _ (hx.sees sH) (hm.sees sH)) (And.intro (fun H sH=>xK 9 _) (trivial))))
  intro b1 b2 b3
  refine hQ.to [.agg #[Vi 5,Vi 9,Ve]] (fun H sH=>?_) (ix:=[1])
  exact rfl
 ·refine oQ Tryz.func137 (c:=Tryz.f137.body.getD .skip) (N:=19) ?_
  intro hbx hbad Q hQ
  refine go3 38 [.own,.own,.b 1 0,.cl 106 #[.map (some b),.agg #[Vi x.op,Vi x.k,Vi x.n,.string x.s,.string x.nm,.slice A len c]] (.agg #[Vi 4,Vi en,.string es]),.own,.b 0 0,.b 0 0,.b 0 0,.b 0 0,.b 1 0] [] ?_ (ho:=(And.intro (fun H sH=>ho _ _ (hx.sees sH) (hm.sees sH)) (trivial)))
  intro b1 b2 b3
  refine hQ.to [.agg #[Vi 4,Vi en,.string es]] (fun H sH=>?_) (ix:=[1])
  exact rfl
 ·refine oQ Tryz.func137 (c:=Tryz.f137.body.getD .skip) (N:=19) ?_
  intro hbx hbad Q hQ
  refine go3 38 [.own,.own,.b 1 0,.cl 106 #[.map (some b),.agg #[Vi x.op,Vi x.k,Vi x.n,.string x.s,.string x.nm,.slice A len c]] (.agg #[Vi 5,Vi en,.string es]),.own,.b 0 0,.b 0 0,.b 0 0,.b 0 0,.b 1 0] [] ?_ (ho:=(And.intro (fun H sH=>ho _ _ (hx.sees sH) (hm.sees sH)) (trivial)))
  intro b1 b2 b3
  refine hQ.to [.agg #[Vi 5,Vi en,.string es]] (fun H sH=>?_) (ix:=[1])
  exact rfl
end Go.Proofs.YtmoahpojchndiaaGreat
namespace Go.Proofs.YtmoahpojchndiaaGreat
open Go.RowKit
theorem vrows_snoc (l:List Vl) (e:Vl):vrows (l++[e])=vrows l++[e.cells]:=by simp [vrows]
def zV:Vl:=⟨0,0,⟨#[]⟩⟩
theorem lackV_step (p:Option Vl) (v:Vl) (l:List Vl) (h:v.k≠5):rV p (v :: l)=rV (if v.k=4 then some v else p) l:=by
 conv=>lhs; unfold rV
 rw [if_neg h]
theorem lackV_hit (p:Option Vl) (v:Vl) (l:List Vl) (h:v.k=5):rV p (v :: l)=some v:=by
 unfold rV
 rw [if_pos h]
theorem drop_at {α:Type} {l:List α} {k:Nat} {x:α} (h:l[k]?=some x):l.drop k=x :: l.drop (k + 1):=by
 obtain ⟨hk,rfl⟩:=List.getElem?_eq_some_iff.1 h
 exact List.drop_eq_getElem_cons hk
theorem all_any (env:Env) (b:Nat) (x:Ex) (sl:Value) (h:Vw) (hx:IsArgs h x sl) (hm:MapAt h b (mK env)) (hof:OfAll env b x.args) (hl3:x.args.length≤3) :
  C0 Tryz.prog 138 #[.map (some b),sl] h (fun v h'=>∃ A n c u,v=.tuple #[.slice A n c,u.val]∧(rV none (oK env x.args)).getD zV=u∧(rV none (oK env x.args)=none→n=x.args.length∧RS h' 3 (.slice A n c) (vrows (oK env x.args)))):=by
 obtain ⟨vs,hr,hvs⟩:=hx.form
 obtain ⟨A,cap,rfl,-,-,-⟩:=hr.form
 have hvl:=hvs.len
 have hrl:=tK hvl
 rw [hrl] at hr ⊢
 rw [pK]
 generalize hL:x.args.length=len at *
 have hel:(x.args.map (nK env)).length=len:=by rw [List.length_map,hL]
 refine oQ Tryz.func138 (c:=Tryz.f138.body.getD .skip) (N:=35) ?_
 intro hbx hbad Q hQ
 refine zQ 42 3 ?_
 refine go2 25 [.own,.own] [] ?_
 intro b1 b2
 refine wQ [0,1,0,1,1,1] [.block 0,.seq [1,1,1,1]] (fun (k:Nat) X=>∃ (W3:Vw) (v:Value) (pd:Option Vl),X W3 [(0,.map (some b)),(5,Vp b1),(7,Vp b2),(11,.slice A len cap),(12,Vi (len:Int)),(13,Vi (k:Int)),(6,v)] [.box b2 [Vi ((pd.getD zV).k),Vi ((pd.getD zV).n),.string ((pd.getD zV).s)],.box b1 [Vi 0,Vi 0,Ve],.row v 42 3 (vrows ((x.args.map (nK env)).take k))] []∧Sees h W3∧(k≤len)∧(rV none (x.args.map (nK env))=rV pd ((x.args.map (nK env)).drop k))) (fun k=>len - k) (0) (fun X q=>⟨h,(Vz),none,q _ _ _ _ ⟨rfl,by kernel_rfl⟩,Sees.refl _,Nat.zero_le _,rfl⟩) ?_
 rintro k a w ⟨W3,v,pd,hJ,S4,hk,hlk⟩; refine aV hJ ?_; clear hJ a w
 refine go0 6 [] [] ?_
 rcases (by omega:k < len∨len=k) with hlt | hke
 ·obtain ⟨y,hy⟩:∃ y,x.args[k]?=some y:=⟨_,List.getElem?_eq_getElem (by omega)⟩
  obtain ⟨u,hu⟩:∃ u,vs[k]?=some u:=⟨_,List.getElem?_eq_getElem (by omega)⟩
  have hyu:=AllArgs.get hvs hy hu
  obtain ⟨Au,nu,cu,rfl⟩:=hyu.slice
  have hrow:(sK x.args vs)[k]?=some (exRow y (.slice Au nu cu)):=by show (List.zipWith exRow _ _)[k]?=_; rw [List.getElem?_zipWith,hy,hu]
  have ho:=hof y (List.mem_of_getElem? hy)
  have hek:(x.args.map (nK env))[k]?=some (nK env y):=by rw [List.getElem?_map,hy]; rfl
  rw [drop_at hek] at hlk
  have htk:=sY _ k _ hek
  have htl:((x.args.map (nK env)).take k).length=k:=by rw [List.length_take,hel]; omega
  generalize nK env y=e at *
  generalize x.args.map (nK env)=vals at *
  refine eV (t:=decide ((k:Int) < (len:Int))) (decide_eq_true (by omega)) ?_
  refine go0 6 [] [] ?_
  obtain ⟨b5,o6,rfl,-,c7⟩:=RS.row hr (hrow)
  refine pQ (c7.sees S4) ?_
  refine go2 23 [.ix b5 o6 len cap k,.f 0 0,.own,.b 0 0,.b 0 0,.cl 106 #[.map (some b),.agg #[Vi y.op,Vi y.k,Vi y.n,.string y.s,.string y.nm,.slice Au nu cu]] (.agg #[Vi e.k,Vi e.n,.string e.s]),.own,.b 0 0,.b 0 0] [] ?_ (ho:=(And.intro (by first | omega | (simp; omega)) (And.intro (fun H sH=>ho _ _ (hyu.sees (S4.trans sH)) (hm.sees (S4.trans sH))) (trivial))))
  intro b8 b9
  by_cases h5:e.k=5
  ·rw [lackV_hit _ _ _ h5] at hlk
   refine eV (t:=e.k == 5) (beq_iff_eq.2 h5) ?_
   refine go0 1 [] [] ?_
   refine cV 3 0 [.ld 0 0,.pu,.st 3 0] [] (trivial) ?_ ?_
   ·intros; trivial
   rintro W10 S11 -
   refine go0 5 [] [] ?_
   refine vQ ?_
   refine go0 2 [] [] ?_
   refine hQ.to [Vz,.agg #[Vi e.k,Vi e.n,.string e.s]] (fun H sH=>?_) (ix:=[3])
   exact ⟨none,0,0,e,rfl,by rw [hlk]; rfl,fun hn=>by rw [hlk] at hn; cases hn⟩
  ·skip
   rw [lackV_step _ _ _ h5] at hlk
   refine qQ (t:=e.k == 5) (beq_eq_false_iff_ne.2 h5) ?_
   refine go0 10 [.b 0 0] [] ?_
   by_cases h4:e.k=4
   ·rw [if_pos h4] at hlk
    refine eV (t:=e.k == 4) (beq_iff_eq.2 h4) ?_
    refine kV 9 [.b 0 0,.b 2 0,.b 0 0,.fix] [] ?_
    intro b12 W13 S14
    refine goa0 9 [.ap 4 0 (vrows (vals.take k)) [[Vi e.k,Vi e.n,.string e.s]]] [(32,Vi (IntKind.i64.wrap ((k:Int) + 1)),Vi ((k:Int) + 1))] ?_ (ho:=(And.intro (by rw [List.length_map,htl]; simp; omega) (trivial))) (hc:=(And.intro (jJ (by omega) (by omega)) (trivial)))
    intro v31 W15 S16
    refine uQ [(0,.map (some b)),(5,Vp b1),(7,Vp b2),(11,.slice (some ⟨b5,o6,none⟩) len cap),(12,Vi (len:Int)),(6,.slice (sA v31) (sN v31) (sC v31)),(13,Vi ((k:Int) + 1))] [.box b2 [Vi e.k,Vi e.n,.string e.s],.box b1 [Vi 0,Vi 0,Ve],.row (.slice (sA v31) (sN v31) (sC v31)) 42 3 ((vrows (vals.take k))++[[Vi e.k,Vi e.n,.string e.s]])] [] ?_
    exact dV (k + 1) (fun X q=>⟨W15,.slice (sA v31) (sN v31) (sC v31),some e,q _ _ _ _ (fY (by rw [htk,vrows_snoc]; try rfl)),(S4.trans (S14.trans S16)),by omega,hlk⟩) (by omega)
   ·skip
    rw [if_neg h4] at hlk
    refine qQ (t:=e.k == 4) (beq_eq_false_iff_ne.2 h4) ?_
    refine kV 6 [.b 0 0,.fix] [] ?_
    intro b17 W18 S19
    refine goa0 9 [.ap 4 0 (vrows (vals.take k)) [[Vi e.k,Vi e.n,.string e.s]]] [(32,Vi (IntKind.i64.wrap ((k:Int) + 1)),Vi ((k:Int) + 1))] ?_ (ho:=(And.intro (by rw [List.length_map,htl]; simp; omega) (trivial))) (hc:=(And.intro (jJ (by omega) (by omega)) (trivial)))
    intro v31 W20 S21
    refine uQ [(0,.map (some b)),(5,Vp b1),(7,Vp b2),(11,.slice (some ⟨b5,o6,none⟩) len cap),(12,Vi (len:Int)),(6,.slice (sA v31) (sN v31) (sC v31)),(13,Vi ((k:Int) + 1))] [.box b2 [Vi ((pd.getD zV).k),Vi ((pd.getD zV).n),.string ((pd.getD zV).s)],.box b1 [Vi 0,Vi 0,Ve],.row (.slice (sA v31) (sN v31) (sC v31)) 42 3 ((vrows (vals.take k))++[[Vi e.k,Vi e.n,.string e.s]])] [] ?_
    exact dV (k + 1) (fun X q=>⟨W20,.slice (sA v31) (sN v31) (sC v31),pd,q _ _ _ _ (fY (by rw [htk,vrows_snoc]; try rfl)),(S4.trans (S19.trans S21)),by omega,hlk⟩) (by omega)
 ·skip
  have hta:(x.args.map (nK env)).take k=x.args.map (nK env):=List.take_of_length_le (by omega)
  rw [hta]
  rw [List.drop_eq_nil_of_le (by omega)] at hlk
  refine g_form 2 (v:=v) (e:=42) (kk:=3) (l:=vrows (x.args.map (nK env))) ?_; intro A2 c2 hE_v hc_v hm_v
  rw [show (vrows (x.args.map (nK env))).length=len from by first | omega | (simp; done) | (simp; omega)] at hE_v hc_v
  rw [hE_v]
  refine qQ (t:=decide ((k:Int) < (len:Int))) (decide_eq_false (by omega)) ?_
  refine go0 2 [] [] ?_
  refine vQ ?_
  refine go0 3 [] [] ?_
  refine cV 4 0 [.pu,.ld 0 0,.pu,.st 1 0] [] (trivial) ?_ ?_
  ·intros; trivial
  rintro W22 S23 -
  refine go0 2 [] [] ?_
  refine uQ [(5,Vp b1),(4,.slice A2 len c2)] [.box b2 [Vi ((pd.getD zV).k),Vi ((pd.getD zV).n),.string ((pd.getD zV).s)],.box b1 [Vi ((pd.getD zV).k),Vi ((pd.getD zV).n),.string ((pd.getD zV).s)],.row (.slice A2 len c2) 42 3 (vrows (x.args.map (nK env)))] [] ?_
  refine hQ.toJ [.slice A2 len c2,.agg #[Vi ((pd.getD zV).k),Vi ((pd.getD zV).n),.string ((pd.getD zV).s)]] [] (fun a w hJ=>?_) (ix:=[1])
  have fr:=hJ.j.rowOut0 (v:=.slice A2 len c2) (e:=42) (k:=3) (l:=vrows (x.args.map (nK env))) 2 (by kernel_rfl) rfl
  exact ⟨A2,len,c2,pd.getD zV,rfl,by rw [hlk]; rfl,fun _=>⟨rfl,fr⟩⟩
end Go.Proofs.YtmoahpojchndiaaGreat
namespace Go.Proofs.YtmoahpojchndiaaGreat
open Go.RowKit
theorem first_known {v:Vl} (h:OkV v) (hk:(fQ v).2=true):(fQ v).1=v∧v.k=2∧(v.n=0∨v.n=1):=by
 unfold fQ at hk ⊢
 split at hk
 ·cases hk
 ·rename_i h13
  rw [if_neg h13]
  have h2:v.k=2:=by simpa using hk
  refine ⟨rfl,h2,?_⟩
  rcases h with h | h | h
  ·rcases h with h | h | h
   ·omega
   ·exact h.2.1
   ·omega
  ·rw [h] at h2; cases h2
  ·omega
theorem hd_eval {env:Env} {l:List Ex} {i:Nat} {y:Ex} (h:l[i]?=some y):hdV (oK env l) i=nK env y:=by
 unfold hdV
 rw [pK,List.getD_eq_getElem?_getD,List.getElem?_map,h]; rfl
theorem of_lookup {env:Env} {s:ByteArray} {v:Vl} (h:env.get s=some v):∃ i,mfind .string (.string s) (mK env)=some (some (i,v.val)):=mfind_some (by rw [sget_env,h]; rfl)
theorem of_miss {env:Env} {s:ByteArray} (h:env.get s=none):mfind .string (.string s) (mK env)=some none:=mfind_none (by rw [sget_env,h]; rfl)
theorem args_at {h:Vw} {x:Ex} {vs:List Value} (hvs:AllArgs h x.args vs) {i:Nat} (hi:i < x.args.length):∃ y A n c,x.args[i]?=some y∧IsArgs h y (.slice A n c)∧(sK x.args vs)[i]?=some (exRow y (.slice A n c)):=by
 obtain ⟨y,hy⟩:∃ y,x.args[i]?=some y:=⟨_,List.getElem?_eq_getElem hi⟩
 obtain ⟨u,hu⟩:∃ u,vs[i]?=some u:=⟨_,List.getElem?_eq_getElem (by rw [hvs.len]; exact hi)⟩
 have hyu:=AllArgs.get hvs hy hu
 obtain ⟨A,n,c,rfl⟩:=hyu.slice
 exact ⟨y,A,n,c,hy,hyu,by show (List.zipWith exRow _ _)[i]?=_; rw [List.getElem?_zipWith,hy,hu]⟩
theorem of_any (env:Env) (he:EnvOk env) (b:Nat):∀ (m:Nat) (x:Ex) (sl:Value) (h:Vw),(szE x).1≤m→IsArgs h x sl→WfE x→MapAt h b (mK env) →
  C0 Tryz.prog 106 #[.map (some b),.agg #[.int .i64 x.op,.int .i64 x.k,.int .i64 x.n,.string x.s,.string x.nm,sl]] h (fun r _=>r=(nK env x).val)
 | 0,x,sl,h,hm,_,_,_=>by have:=szE_pos x; omega
 | m + 1,x,sl,h,hm,hx,hw,hmp=>by
  have IH:=of_any env he b m
  have hse:=qY x
  rw [hse] at hm
  simp only at hm
  have hwl:=hw.list
  have hof:OfAll env b x.args:=fun y hy v H hyv hM=>IH y v H (by have:=(szL_mem hy).1; omega) hyv (hwl.get hy) hM
  have hok:∀ y∈x.args,OkV (nK env y):=fun y hy=>evalE_ok he _ y (Nat.le_refl _) (hwl.get hy)
  have hev:=evalE_eq env x
  obtain ⟨A,len,c,rfl⟩:=hx.slice
  rcases hw.top with ⟨h1,h2,h3,h4,h5⟩ | ⟨h1,h2,h3,h4,h5,h6⟩ | ⟨h1,h2,h3,h4,h5,h6,h7⟩
  ·rw [if_pos h1] at hev
   rw [hev,h1]
   refine oQ Tryz.func106 (c:=Tryz.f106.body.getD .skip) (N:=93) ?_
   intro hbx hbad Q hQ
   refine go2 31 [.own,.own,.b 1 0,.b 1 1,.b 0 0] [] ?_
   intro b1 b2
   refine hQ.to [.agg #[Vi x.k,Vi x.n,.string x.s]] (fun H sH=>?_) (ix:=[0])
   exact rfl
  ·rw [if_neg (by omega),if_pos h1] at hev
   rw [h1]
   cases hg:env.get x.nm with
   | none =>
    rw [hg] at hev
    have hl:=of_miss hg
    rw [hev]
    refine oQ Tryz.func106 (c:=Tryz.f106.body.getD .skip) (N:=93) ?_
    intro hbx hbad Q hQ
    refine go2 34 [.own,.own,.b 1 0,.b 1 4] [] ?_
    intro b1 b2
    refine xQ b (es:=mK env) (td:=.string) (key:=.string x.nm) (r:=none) (.agg #[Vi 0,Vi 0,Ve]) (.tuple #[.agg #[Vi 0,Vi 0,Ve],.bool false]) (fun a w hJ=>MapAt.now (hmp.sees (Sees.refl _)) hJ) (hl) ?_
    refine go1 25 [.own,.b 0 0,.cl 135 #[Vi 5] (.agg #[Vi 5,Vi 5,Ve]),.b 1 0] [] ?_ (ho:=(And.intro (fun H sH=>xK 5 _) (trivial)))
    intro b3
    refine hQ.to [.agg #[Vi 5,Vi 5,Ve]] (fun H sH=>?_) (ix:=[1])
    exact rfl
   | some u =>
    rw [hg] at hev
    obtain ⟨i,hl⟩:=of_lookup hg
    rw [hev]
    refine oQ Tryz.func106 (c:=Tryz.f106.body.getD .skip) (N:=93) ?_
    intro hbx hbad Q hQ
    refine go2 34 [.own,.own,.b 1 0,.b 1 4] [] ?_
    intro b1 b2
    refine xQ b (es:=mK env) (td:=.string) (key:=.string x.nm) (r:=some (i,.agg #[Vi u.k,Vi u.n,.string u.s])) (.agg #[Vi 0,Vi 0,Ve]) (.tuple #[.agg #[Vi u.k,Vi u.n,.string u.s],.bool true]) (fun a w hJ=>MapAt.now (hmp.sees (Sees.refl _)) hJ) (hl) ?_
    refine go1 24 [.own,.b 0 0,.b 0 0,.b 1 0] [] ?_
    intro b3
    refine hQ.to [.agg #[Vi u.k,Vi u.n,.string u.s]] (fun H sH=>?_) (ix:=[1])
    exact rfl
  ·rw [if_neg (by omega),if_neg (by omega)] at hev
   have hap:=arity_pos h1 h2
   obtain ⟨vs,hr,hvs⟩:=hx.form
   obtain ⟨A',c',e',-⟩:=hr.form
   rw [tK hvs.len] at e'
   simp only [Value.slice.injEq] at e'
   obtain ⟨rfl,rfl,rfl⟩:=e'
   by_cases h15:x.op=15∨x.op=16
   ·have ha:arity x.op=2:=by unfold arity; rw [if_neg (by omega),if_neg (by omega),if_neg (by omega)]
    obtain ⟨y0,A0,n0,c0,hy0,-,-⟩:=args_at hvs (i:=0) (by omega)
    obtain ⟨y1,A1,n1,c1,hy1,hi1,hrow1⟩:=args_at hvs (i:=1) (by omega)
    have ok0:=hok y0 (List.mem_of_getElem? hy0)
    have ok1:=hok y1 (List.mem_of_getElem? hy1)
    have hf:=fun H q1 q2=>first_any env b x y0 (.slice A x.args.length c) H q1 q2 hy0 hof ok0
    have hb:=fun H q1 q2=>bool_any env b y1 (.slice A1 n1 c1) H q1 q2 (hof y1 (List.mem_of_getElem? hy1)) ok1
    rw [if_pos h15,hd_eval hy0,hd_eval hy1] at hev
    have hlen:1 < x.args.length:=by omega
    have hfk:=first_known ok0
    generalize hF:fQ (nK env y0)=f at *
    obtain ⟨⟨fk,fn,fs⟩,fb⟩:=f
    simp only at hev hfk hf
    rcases h15 with h15 | h15
    ·have ho:(x.op == 16)=false:=by rw [h15]; rfl
     rw [ho] at hev
     rw [h15] at hf ⊢
     cases fb with
     | false =>
      rw [if_pos (.inl rfl)] at hev
      rw [hev]
      refine oQ Tryz.func106 (c:=Tryz.f106.body.getD .skip) (N:=93) ?_
      intro hbx hbad Q hQ
      refine go3 79 [.own,.own,.b 1 0,.b 1 0,.cl 136 #[.map (some b),.agg #[Vi 15,Vi x.k,Vi x.n,.string x.s,.string x.nm,.slice A x.args.length c]] (.tuple #[.agg #[Vi fk,Vi fn,.string fs],.bool false]),.own,.b 0 0,.b 0 0,.b 1 0] [] ?_ (ho:=(And.intro (fun H sH=>hf _ (hx.sees sH) (hmp.sees sH)) (trivial)))
      intro b1 b2 b3
      refine hQ.to [.agg #[Vi fk,Vi fn,.string fs]] (fun H sH=>?_) (ix:=[1])
      exact rfl
     | true =>
      obtain ⟨e1,e2,e3⟩:=hfk rfl
      rw [← e1] at e2 e3
      simp only at e2 e3
      subst e2
      rcases e3 with rfl | rfl
      ·rw [if_pos (.inr (by decide))] at hev
       rw [hev]
       refine oQ Tryz.func106 (c:=Tryz.f106.body.getD .skip) (N:=93) ?_
       intro hbx hbad Q hQ
       refine go3 79 [.own,.own,.b 1 0,.b 1 0,.cl 136 #[.map (some b),.agg #[Vi 15,Vi x.k,Vi x.n,.string x.s,.string x.nm,.slice A x.args.length c]] (.tuple #[.agg #[Vi 2,Vi 0,.string fs],.bool true]),.own,.b 0 0,.b 0 1,.b 2 0,.b 0 0,.b 1 0] [] ?_ (ho:=(And.intro (fun H sH=>hf _ (hx.sees sH) (hmp.sees sH)) (trivial)))
       intro b1 b2 b3
       refine hQ.to [.agg #[Vi 2,Vi 0,.string fs]] (fun H sH=>?_) (ix:=[1])
       exact rfl
      ·rw [if_neg (by simp)] at hev
       rw [hev]
       refine oQ Tryz.func106 (c:=Tryz.f106.body.getD .skip) (N:=93) ?_
       intro hbx hbad Q hQ
       refine go3 76 [.own,.own,.b 1 0,.b 1 0,.cl 136 #[.map (some b),.agg #[Vi 15,Vi x.k,Vi x.n,.string x.s,.string x.nm,.slice A x.args.length c]] (.tuple #[.agg #[Vi 2,Vi 1,.string fs],.bool true]),.own,.b 0 0,.b 0 1,.b 2 0,.b 2 5] [] ?_ (ho:=(And.intro (fun H sH=>hf _ (hx.sees sH) (hmp.sees sH)) (trivial)))
       intro b1 b2 b3
       obtain ⟨b4,o5,rfl,-,c6⟩:=RS.row hr (hrow1)
       refine pQ (c6.sees (Sees.refl _)) ?_
       refine go0 9 [.ix b4 o5 x.args.length c 1,.f 0 0,.cl 137 #[.map (some b),.agg #[Vi y1.op,Vi y1.k,Vi y1.n,.string y1.s,.string y1.nm,.slice A1 n1 c1]] (.agg #[Vi ((xJ (nK env y1)).k),Vi ((xJ (nK env y1)).n),.string ((xJ (nK env y1)).s)]),.b 1 0] [] ?_ (ho:=(And.intro (by first | omega | (simp; omega)) (And.intro (fun H sH=>hb _ (hi1.sees sH) (hmp.sees sH)) (trivial))))
       refine hQ.to [.agg #[Vi ((xJ (nK env y1)).k),Vi ((xJ (nK env y1)).n),.string ((xJ (nK env y1)).s)]] (fun H sH=>?_) (ix:=[1])
       exact rfl
    ·have ho:(x.op == 16)=true:=by rw [h15]; rfl
     rw [ho] at hev
     rw [h15] at hf ⊢
     cases fb with
     | false =>
      rw [if_pos (.inl rfl)] at hev
      rw [hev]
      refine oQ Tryz.func106 (c:=Tryz.f106.body.getD .skip) (N:=93) ?_
      intro hbx hbad Q hQ
      refine go3 82 [.own,.own,.b 1 0,.b 1 0,.cl 136 #[.map (some b),.agg #[Vi 16,Vi x.k,Vi x.n,.string x.s,.string x.nm,.slice A x.args.length c]] (.tuple #[.agg #[Vi fk,Vi fn,.string fs],.bool false]),.own,.b 0 0,.b 0 0,.b 1 0] [] ?_ (ho:=(And.intro (fun H sH=>hf _ (hx.sees sH) (hmp.sees sH)) (trivial)))
      intro b1 b2 b3
      refine hQ.to [.agg #[Vi fk,Vi fn,.string fs]] (fun H sH=>?_) (ix:=[1])
      exact rfl
     | true =>
      obtain ⟨e1,e2,e3⟩:=hfk rfl
      rw [← e1] at e2 e3
      simp only at e2 e3
      subst e2
      rcases e3 with rfl | rfl
      ·rw [if_neg (by simp)] at hev
       rw [hev]
       refine oQ Tryz.func106 (c:=Tryz.f106.body.getD .skip) (N:=93) ?_
       intro hbx hbad Q hQ
       refine go3 79 [.own,.own,.b 1 0,.b 1 0,.cl 136 #[.map (some b),.agg #[Vi 16,Vi x.k,Vi x.n,.string x.s,.string x.nm,.slice A x.args.length c]] (.tuple #[.agg #[Vi 2,Vi 0,.string fs],.bool true]),.own,.b 0 0,.b 0 1,.b 2 0,.b 2 5] [] ?_ (ho:=(And.intro (fun H sH=>hf _ (hx.sees sH) (hmp.sees sH)) (trivial)))
       intro b1 b2 b3
       obtain ⟨b4,o5,rfl,-,c6⟩:=RS.row hr (hrow1)
       refine pQ (c6.sees (Sees.refl _)) ?_
       refine go0 9 [.ix b4 o5 x.args.length c 1,.f 0 0,.cl 137 #[.map (some b),.agg #[Vi y1.op,Vi y1.k,Vi y1.n,.string y1.s,.string y1.nm,.slice A1 n1 c1]] (.agg #[Vi ((xJ (nK env y1)).k),Vi ((xJ (nK env y1)).n),.string ((xJ (nK env y1)).s)]),.b 1 0] [] ?_ (ho:=(And.intro (by first | omega | (simp; omega)) (And.intro (fun H sH=>hb _ (hi1.sees sH) (hmp.sees sH)) (trivial))))
       refine hQ.to [.agg #[Vi ((xJ (nK env y1)).k),Vi ((xJ (nK env y1)).n),.string ((xJ (nK env y1)).s)]] (fun H sH=>?_) (ix:=[1])
       exact rfl
      ·rw [if_pos (.inr (by decide))] at hev
       rw [hev]
       refine oQ Tryz.func106 (c:=Tryz.f106.body.getD .skip) (N:=93) ?_
       intro hbx hbad Q hQ
       refine go3 82 [.own,.own,.b 1 0,.b 1 0,.cl 136 #[.map (some b),.agg #[Vi 16,Vi x.k,Vi x.n,.string x.s,.string x.nm,.slice A x.args.length c]] (.tuple #[.agg #[Vi 2,Vi 1,.string fs],.bool true]),.own,.b 0 0,.b 0 1,.b 2 0,.b 0 0,.b 1 0] [] ?_ (ho:=(And.intro (fun H sH=>hf _ (hx.sees sH) (hmp.sees sH)) (trivial)))
       intro b1 b2 b3
       refine hQ.to [.agg #[Vi 2,Vi 1,.string fs]] (fun H sH=>?_) (ix:=[1])
       exact rfl
   ·by_cases h17:x.op=17
    ·have ha:x.args.length=3:=by rw [h7,h17]; rfl
     obtain ⟨y0,A0,n0,c0,hy0,-,-⟩:=args_at hvs (i:=0) (by omega)
     obtain ⟨y1,A1,n1,c1,hy1,hi1,hrow1⟩:=args_at hvs (i:=1) (by omega)
     obtain ⟨y2,A2,n2,c2,hy2,hi2,hrow2⟩:=args_at hvs (i:=2) (by omega)
     have ok0:=hok y0 (List.mem_of_getElem? hy0)
     have ho1:=hof y1 (List.mem_of_getElem? hy1)
     have ho2:=hof y2 (List.mem_of_getElem? hy2)
     have hf:=fun H q1 q2=>first_any env b x y0 (.slice A x.args.length c) H q1 q2 hy0 hof ok0
     rw [if_neg h15,if_pos h17,hd_eval hy0,hd_eval hy1,hd_eval hy2] at hev
     have hfk:=first_known ok0
     generalize hF:fQ (nK env y0)=f at *
     obtain ⟨⟨fk,fn,fs⟩,fb⟩:=f
     simp only at hev hfk hf
     rw [h17] at hf ⊢
     cases fb with
     | false =>
      rw [if_pos rfl] at hev
      rw [hev]
      refine oQ Tryz.func106 (c:=Tryz.f106.body.getD .skip) (N:=93) ?_
      intro hbx hbad Q hQ
      refine go3 80 [.own,.own,.b 1 0,.b 1 0,.cl 136 #[.map (some b),.agg #[Vi 17,Vi x.k,Vi x.n,.string x.s,.string x.nm,.slice A x.args.length c]] (.tuple #[.agg #[Vi fk,Vi fn,.string fs],.bool false]),.own,.b 0 0,.b 0 0,.b 1 0] [] ?_ (ho:=(And.intro (fun H sH=>hf _ (hx.sees sH) (hmp.sees sH)) (trivial)))
      intro b1 b2 b3
      refine hQ.to [.agg #[Vi fk,Vi fn,.string fs]] (fun H sH=>?_) (ix:=[1])
      exact rfl
     | true =>
      rw [if_neg (by simp)] at hev
      obtain ⟨e1,e2,e3⟩:=hfk rfl
      rw [← e1] at e2 e3
      simp only at e2 e3
      subst e2
      rcases e3 with rfl | rfl
      ·rw [if_neg (by decide)] at hev
       rw [hev]
       refine oQ Tryz.func106 (c:=Tryz.f106.body.getD .skip) (N:=93) ?_
       intro hbx hbad Q hQ
       refine go3 80 [.own,.own,.b 1 0,.b 1 0,.cl 136 #[.map (some b),.agg #[Vi 17,Vi x.k,Vi x.n,.string x.s,.string x.nm,.slice A x.args.length c]] (.tuple #[.agg #[Vi 2,Vi 0,.string fs],.bool true]),.own,.b 0 0,.b 2 5,.b 0 1] [] ?_ (ho:=(And.intro (fun H sH=>hf _ (hx.sees sH) (hmp.sees sH)) (trivial)))
       intro b1 b2 b3
       obtain ⟨b4,o5,rfl,-,c6⟩:=RS.row hr (hrow2)
       refine pQ (c6.sees (Sees.refl _)) ?_
       refine go0 9 [.ix b4 o5 x.args.length c 2,.f 0 0,.cl 106 #[.map (some b),.agg #[Vi y2.op,Vi y2.k,Vi y2.n,.string y2.s,.string y2.nm,.slice A2 n2 c2]] (.agg #[Vi ((nK env y2).k),Vi ((nK env y2).n),.string ((nK env y2).s)]),.b 1 0] [] ?_ (ho:=(And.intro (by first | omega | (simp; omega)) (And.intro (fun H sH=>ho2 _ _ (hi2.sees sH) (hmp.sees sH)) (trivial))))
       refine hQ.to [.agg #[Vi ((nK env y2).k),Vi ((nK env y2).n),.string ((nK env y2).s)]] (fun H sH=>?_) (ix:=[1])
       exact rfl
      ·rw [if_pos rfl] at hev
       rw [hev]
       refine oQ Tryz.func106 (c:=Tryz.f106.body.getD .skip) (N:=93) ?_
       intro hbx hbad Q hQ
       refine go3 80 [.own,.own,.b 1 0,.b 1 0,.cl 136 #[.map (some b),.agg #[Vi 17,Vi x.k,Vi x.n,.string x.s,.string x.nm,.slice A x.args.length c]] (.tuple #[.agg #[Vi 2,Vi 1,.string fs],.bool true]),.own,.b 0 0,.b 2 5,.b 0 1] [] ?_ (ho:=(And.intro (fun H sH=>hf _ (hx.sees sH) (hmp.sees sH)) (trivial)))
       intro b1 b2 b3
       obtain ⟨b4,o5,rfl,-,c6⟩:=RS.row hr (hrow1)
       refine pQ (c6.sees (Sees.refl _)) ?_
       refine go0 9 [.ix b4 o5 x.args.length c 1,.f 0 0,.cl 106 #[.map (some b),.agg #[Vi y1.op,Vi y1.k,Vi y1.n,.string y1.s,.string y1.nm,.slice A1 n1 c1]] (.agg #[Vi ((nK env y1).k),Vi ((nK env y1).n),.string ((nK env y1).s)]),.b 1 0] [] ?_ (ho:=(And.intro (by first | omega | (simp; omega)) (And.intro (fun H sH=>ho1 _ _ (hi1.sees sH) (hmp.sees sH)) (trivial))))
       refine hQ.to [.agg #[Vi ((nK env y1).k),Vi ((nK env y1).n),.string ((nK env y1).s)]] (fun H sH=>?_) (ix:=[1])
       exact rfl
    ·rw [if_neg h15,if_neg h17] at hev
     have hall:=fun H q1 q2=>all_any env b x (.slice A x.args.length c) H q1 q2 hof (by omega)
     have hlv:(oK env x.args).length=arity x.op:=by rw [pK,List.length_map,h7]
     have hvk:∀ v∈oK env x.args,OkV v:=fun v hv=>by
      rw [pK] at hv
      obtain ⟨y,hy,rfl⟩:=List.mem_map.1 hv
      exact hok y hy
     rcases hk:rV none (oK env x.args) with _ | u
     ·rw [hk] at hev hall
      obtain ⟨-,g⟩:=lack_none hk
      have hap2:=fun sl H q=>apply_any x.op (oK env x.args) sl H q (fun v hv=>ok_known (hvk v hv) (g v hv).2 (g v hv).1) h1 h2 (by omega) (by omega) h17 hlv
      rw [hev]
      refine oQ Tryz.func106 (c:=Tryz.f106.body.getD .skip) (N:=93) ?_
      intro hbx hbad Q hQ
      refine go2 57 [.own,.own,.b 1 0,.b 1 5] [(16,.bool (x.op == 1),.bool false),(20,.bool (x.op == 2),.bool false),(32,.bool (x.op == 15),.bool false),(33,.bool (x.op == 16),.bool false),(59,.bool (x.op == 17),.bool false)] ?_ (hc:=(And.intro (congrArg Value.bool (beq_eq_false_iff_ne.2 (by omega))) (And.intro (congrArg Value.bool (beq_eq_false_iff_ne.2 (by omega))) (And.intro (congrArg Value.bool (beq_eq_false_iff_ne.2 (by omega))) (And.intro (congrArg Value.bool (beq_eq_false_iff_ne.2 (by omega))) (And.intro (congrArg Value.bool (beq_eq_false_iff_ne.2 (by omega))) (trivial)))))))
      intro b1 b2
      refine lQ (fun H sH=>hall _ (hx.sees sH) (hmp.sees sH)) ?_; rintro _ W3 S4 ⟨Aq,nq,cq,uq,rfl,rfl,hq⟩
      refine go1 24 [.own,.b 0 0,.b 0 0,.b 2 0] [] ?_
      intro b5
      have hq2:=(hq rfl).2
      refine go0 5 [.cl 139 #[Vi x.op,.slice Aq nq cq] (.agg #[Vi ((nJ x.op (oK env x.args)).k),Vi ((nJ x.op (oK env x.args)).n),.string ((nJ x.op (oK env x.args)).s)]),.b 1 0] [] ?_ (ho:=(And.intro (fun H sH=>hap2 _ _ (hq2.sees sH)) (trivial)))
      refine hQ.to [.agg #[Vi ((nJ x.op (oK env x.args)).k),Vi ((nJ x.op (oK env x.args)).n),.string ((nJ x.op (oK env x.args)).s)]] (fun H sH=>?_) (ix:=[1])
      exact rfl
     ·rw [hk] at hev hall
      obtain ⟨hu45,-⟩:=lack_some hk (fun w hw=>by cases hw)
      rw [hev]
      refine oQ Tryz.func106 (c:=Tryz.f106.body.getD .skip) (N:=93) ?_
      intro hbx hbad Q hQ
      refine go2 57 [.own,.own,.b 1 0,.b 1 5] [(16,.bool (x.op == 1),.bool false),(20,.bool (x.op == 2),.bool false),(32,.bool (x.op == 15),.bool false),(33,.bool (x.op == 16),.bool false),(59,.bool (x.op == 17),.bool false)] ?_ (hc:=(And.intro (congrArg Value.bool (beq_eq_false_iff_ne.2 (by omega))) (And.intro (congrArg Value.bool (beq_eq_false_iff_ne.2 (by omega))) (And.intro (congrArg Value.bool (beq_eq_false_iff_ne.2 (by omega))) (And.intro (congrArg Value.bool (beq_eq_false_iff_ne.2 (by omega))) (And.intro (congrArg Value.bool (beq_eq_false_iff_ne.2 (by omega))) (trivial)))))))
      intro b1 b2
      refine lQ (fun H sH=>hall _ (hx.sees sH) (hmp.sees sH)) ?_; rintro _ W3 S4 ⟨Aq,nq,cq,uq,rfl,rfl,hq⟩
      refine go1 25 [.own,.b 0 0,.b 0 0,.b 0 0,.b 1 0] [(87,.bool (u.k != 0),.bool true)] ?_ (hc:=(And.intro (congrArg Value.bool (bne_iff_ne.2 (by omega))) (trivial)))
      intro b5
      refine hQ.to [.agg #[Vi u.k,Vi u.n,.string u.s]] (fun H sH=>?_) (ix:=[1])
      exact rfl
end Go.Proofs.YtmoahpojchndiaaGreat
namespace Go.Proofs.YtmoahpojchndiaaGreat
open Go.RowKit
theorem check_pending (h:Vw):C0 Tryz.prog 89 #[.agg #[.int .i64 4,.int .i64 0,.string ⟨#[]⟩]] h (fun v _=>v=.int .i64 0):=by
 refine oQ Tryz.func89 (c:=Tryz.f89.body.getD .skip) (N:=50) ?_
 intro hbx hbad Q hQ
 refine go1 70 [.own,.b 0 0,.b 0 1,.b 0 2] [] ?_
 intro b1
 refine hQ.to [Vi 0] (fun H sH=>?_)
 exact rfl
theorem check_fault (n:Int) (h:Vw) (h0:1≤n) (h1:n≤15):C0 Tryz.prog 89 #[.agg #[.int .i64 5,.int .i64 n,.string ⟨#[]⟩]] h (fun v _=>v=.int .i64 0):=by
 refine oQ Tryz.func89 (c:=Tryz.f89.body.getD .skip) (N:=50) ?_
 intro hbx hbad Q hQ
 refine go1 82 [.own,.b 0 0,.b 0 1,.b 0 1,.b 0 2] [(41,.bool (decide (n < 1)),.bool false),(45,.bool (decide (n > 15)),.bool false)] ?_ (hc:=(And.intro (congrArg Value.bool (decide_eq_false (by omega))) (And.intro (congrArg Value.bool (decide_eq_false (by omega))) (trivial))))
 intro b1
 refine hQ.to [Vi 0] (fun H sH=>?_)
 exact rfl
theorem check_okv (v:Vl) (h:Vw) (hv:OkV v):C0 Tryz.prog 89 #[v.val] h (fun r _=>r=.int .i64 0):=by
 rcases hv with hv | rfl | ⟨h1,h2,h3,h4⟩
 ·exact C0.of_gives (fun w=>value_check v.k v.n v.s w hv) h
 ·exact check_pending h
 ·obtain ⟨k,n,s⟩:=v
  simp only at h1 h2 h3 h4
  subst h1 h4
  exact check_fault n h h2 h3
def addF (env:Env) (p:ByteArray × Vl):Env:=match env.get p.1 with
 | some _=>env
 | none=>env++[p]
def factsE (l:Env):Env:=l.foldl addF []
theorem factsE_snoc (l:Env) (p:ByteArray × Vl):factsE (l++[p])=addF (factsE l) p:=by unfold factsE; rw [List.foldl_append]; rfl
theorem envEs_snoc (l:Env) (p:ByteArray × Vl):mK (l++[p])=mK l++[(.string p.1,p.2.val)]:=by simp [mK,oY]
theorem facts_any (l:Env) (sl:Value) (h:Vw) (hr:RS h 7 sl (yK l)) (hok:∀ p∈l,OkV p.2) (hl:l.length≤1000) :
  C0 Tryz.prog 105 #[sl] h (fun v h'=>∃ b,v=.tuple #[.map (some b),.int .i64 0]∧MapAt h' b (mK (factsE l))):=by
 obtain ⟨A,cap,rfl,-,-,-⟩:=hr.form
 rw [List.length_map] at *
 generalize hL:l.length=len at *
 refine oQ Tryz.func105 (c:=Tryz.f105.body.getD .skip) (N:=39) ?_
 intro hbx hbad Q hQ
 refine go0 8 [] [] ?_
 refine g_mapmake ?_; intro b1
 refine go0 12 [] [] ?_
 refine wQ [0,1,0,1,1] [.block 0,.seq [1,1,1]] (fun (k:Nat) X=>∃ (W2:Vw) ,X W2 [(4,.map (some b1)),(11,.slice A len cap),(12,Vi (len:Int)),(13,Vi (k:Int))] [.map b1 (mK (factsE (l.take k)))] []∧Sees h W2∧(k≤len)) (fun k=>len - k) (0) (fun X q=>⟨h,q _ _ _ _ ⟨rfl,by kernel_rfl⟩,Sees.refl _,Nat.zero_le _⟩) ?_
 rintro k a w ⟨W2,hJ,S3,hk⟩; refine aV hJ ?_; clear hJ a w
 refine go0 6 [] [] ?_
 rcases (by omega:k < len∨len=k) with hlt | hke
 ·obtain ⟨p,hp⟩:∃ p,l[k]?=some p:=⟨_,List.getElem?_eq_getElem (by omega)⟩
  have hrow:(yK l)[k]?=some (fcRow p):=by rw [List.getElem?_map,hp]; rfl
  have hck:=fun H=>check_okv p.2 H (hok p (List.mem_of_getElem? hp))
  have htk:factsE (l.take (k + 1))=addF (factsE (l.take k)) p:=by rw [sY l k p hp,factsE_snoc]
  generalize factsE (l.take k)=env at *
  cases hg:env.get p.1 with
  | some u =>
   obtain ⟨i,hi⟩:=of_lookup hg
   refine eV (t:=decide ((k:Int) < (len:Int))) (decide_eq_true (by omega)) ?_
   refine go0 6 [] [] ?_
   obtain ⟨b4,o5,rfl,-,c6⟩:=RS.row hr (hrow)
   refine pQ (c6.sees S3) ?_
   refine go1 29 [.ix b4 o5 len cap k,.f 0 0,.own,.b 0 0,.b 0 4,.cl 89 #[.agg #[Vi p.2.k,Vi p.2.n,.string p.2.s]] (Vi 0),.b 0 0] [] ?_ (ho:=(And.intro (by first | omega | (simp; omega)) (And.intro (fun H sH=>hck _) (trivial))))
   intro b7
   refine g_mapget 1 b1 (es:=mK (env)) (td:=.string) (key:=.string p.1) (r:=some (i,.agg #[Vi u.k,Vi u.n,.string u.s])) (.agg #[Vi 0,Vi 0,Ve]) (.tuple #[.agg #[Vi u.k,Vi u.n,.string u.s],.bool true]) (hi) ?_
   refine go1 22 [.own,.b 0 0] [(37,Vi (IntKind.i64.wrap ((k:Int) + 1)),Vi ((k:Int) + 1))] ?_ (hc:=(And.intro (jJ (by omega) (by omega)) (trivial)))
   intro b8
   refine uQ [(4,.map (some b1)),(11,.slice (some ⟨b4,o5,none⟩) len cap),(12,Vi (len:Int)),(13,Vi ((k:Int) + 1))] [.map b1 (mK (env))] [] ?_
   exact dV (k + 1) (fun X q=>⟨W2,q _ _ _ _ (fY (by rw [htk]; unfold addF; rw [hg]; try rfl)),S3,by omega⟩) (by omega)
  | none =>
   refine eV (t:=decide ((k:Int) < (len:Int))) (decide_eq_true (by omega)) ?_
   refine go0 6 [] [] ?_
   obtain ⟨b9,o10,rfl,-,c11⟩:=RS.row hr (hrow)
   refine pQ (c11.sees S3) ?_
   refine go1 29 [.ix b9 o10 len cap k,.f 0 0,.own,.b 0 0,.b 0 4,.cl 89 #[.agg #[Vi p.2.k,Vi p.2.n,.string p.2.s]] (Vi 0),.b 0 0] [] ?_ (ho:=(And.intro (by first | omega | (simp; omega)) (And.intro (fun H sH=>hck _) (trivial))))
   intro b12
   refine g_mapget 1 b1 (es:=mK (env)) (td:=.string) (key:=.string p.1) (r:=none) (.agg #[Vi 0,Vi 0,Ve]) (.tuple #[.agg #[Vi 0,Vi 0,Ve],.bool false]) (of_miss hg) ?_
   refine go1 21 [.own,.b 0 0,.b 1 0,.b 1 4] [] ?_
   intro b13
   refine yQ 2 b1 (es:=mK (env)) (td:=.string) (key:=.string p.1) (of_miss hg) ?_
   refine go0 7 [] [(37,Vi (IntKind.i64.wrap ((k:Int) + 1)),Vi ((k:Int) + 1))] ?_ (hc:=(And.intro (jJ (by omega) (by omega)) (trivial)))
   refine uQ [(4,.map (some b1)),(11,.slice (some ⟨b9,o10,none⟩) len cap),(12,Vi (len:Int)),(13,Vi ((k:Int) + 1))] [.map b1 ((mK (env))++[(.string p.1,.agg #[Vi p.2.k,Vi p.2.n,.string p.2.s])])] [] ?_
   exact dV (k + 1) (fun X q=>⟨W2,q _ _ _ _ (fY (by rw [htk]; unfold addF; rw [hg]; simp only; rw [envEs_snoc]; try rfl)),S3,by omega⟩) (by omega)
 ·skip
  have hta:l.take k=l:=by rw [← hke,← hL,List.take_length]
  rw [hta]
  refine qQ (t:=decide ((k:Int) < (len:Int))) (decide_eq_false (by omega)) ?_
  refine go0 2 [] [] ?_
  refine vQ ?_
  refine go0 10 [] [] ?_
  refine uQ [(2,.map (some b1)),(3,Vi 0)] [.map b1 (mK (factsE l))] [] ?_
  refine hQ.toJ [.map (some b1),Vi 0] [] (fun a w hJ=>?_)
  exact ⟨b1,rfl,hJ.mapOut 0 (by kernel_rfl) rfl⟩
theorem get_snoc (s:ByteArray) (p:ByteArray × Vl):∀ l:Env,Env.get (l++[p]) s=match Env.get l s with | some v=>some v | none=>if s == p.1 then some p.2 else none
 | []=>by show Env.get [p] s=_; obtain ⟨a,b⟩:=p; unfold Env.get; cases s == a <;> rfl
 | (k,v) :: l=>by
  show Env.get ((k,v) :: (l++[p])) s=_
  rw [Env.get,Env.get]
  cases s == k
  ·simp only [Bool.false_eq_true,if_false]; exact get_snoc s p l
  ·rfl
theorem get_addF (s:ByteArray) (p:ByteArray × Vl) (env:Env):(addF env p).get s=match env.get s with | some v=>some v | none=>if s == p.1 then some p.2 else none:=by
 unfold addF
 cases hg:env.get p.1 with
 | none=>simp only; exact get_snoc s p env
 | some u =>
  simp only
  cases hs:env.get s with
  | some v=>rfl
  | none =>
   simp only
   by_cases he:(s == p.1)=true
   ·have:s=p.1:=(Go.MapKept.bytes_beq _ _).1 he
    rw [this] at hs; rw [hs] at hg; cases hg
   ·rw [if_neg he]
theorem factsE_get (s:ByteArray):∀ l:Env,(factsE l).get s=l.get s:=by
 have key:∀ (l env:Env),(l.foldl addF env).get s=match env.get s with | some v=>some v | none=>l.get s:=by
  intro l
  induction l with
  | nil=>intro env; simp only [List.foldl_nil]; cases env.get s <;> rfl
  | cons p l ih =>
   intro env
   rw [List.foldl_cons,ih,get_addF]
   obtain ⟨k,v⟩:=p
   cases hs:env.get s with
   | some u=>rfl
   | none =>
    simp only
    rw [Env.get]
    cases s == k <;> rfl
 intro l
 exact key l []
theorem get_mem {s:ByteArray} {v:Vl}:∀ {l:Env},Env.get l s=some v→(s,v)∈l
 | [],h=>by cases h
 | (k,u) :: l,h=>by
  rw [Env.get] at h
  by_cases he:(s == k)=true
  ·rw [if_pos he] at h
   have:s=k:=(Go.MapKept.bytes_beq _ _).1 he
   simp only [Option.some.injEq] at h
   subst this h; simp
  ·rw [if_neg he] at h
   exact List.mem_cons_of_mem _ (get_mem h)
theorem factsE_ok {l:Env} (h:∀ p∈l,OkV p.2):EnvOk (factsE l):=fun s v hs=>by
 rw [factsE_get] at hs
 exact h _ (get_mem hs)
theorem ev_congr {e f:Env} (h:∀ s,e.get s=f.get s):∀ (m:Nat) (x:Ex),(szE x).1≤m→nK e x=nK f x
 | 0,x,hm=>by have:=szE_pos x; omega
 | m + 1,x,hm=>by
  have hse:=qY x
  rw [hse] at hm
  simp only at hm
  have hl:oK e x.args=oK f x.args:=by
   rw [pK,pK]
   exact List.map_congr_left fun y hy=>ev_congr h m y (by have:=(szL_mem hy).1; omega)
  rw [evalE_eq e x,evalE_eq f x,hl,h]
theorem ev_facts (l:Env) (x:Ex):nK (factsE l) x=nK l x:=ev_congr (fun s=>factsE_get s l) _ x (Nat.le_refl _)
theorem eval_any (x:Ex) (v:Value) (l:Env) (sl:Value) (h:Vw) (hx:IsArgs h x v) (hw:WfE x) (hb:(szE x).1≤60) (hb2:(szE x).2≤12) (hr:RS h 7 sl (yK l)) (hok:∀ p∈l,OkV p.2) (hl:l.length≤1000) :
  C0 Tryz.prog 66 #[.agg #[.int .i64 x.op,.int .i64 x.k,.int .i64 x.n,.string x.s,.string x.nm,v],sl] h (fun r _=>r=.tuple #[(nK l x).val,.int .i64 0]):=by
 obtain ⟨A,na,ca,rfl⟩:=hx.slice
 obtain ⟨A2,c2,rfl,-,-,-⟩:=hr.form
 rw [List.length_map] at *
 have hck:=fun H hq=>check_any x (.slice A na ca) H hq hw (by omega)
 rw [show chkE x=0 from by unfold chkE; rw [if_neg (by omega),if_neg (by omega)]] at hck
 have hfa:=fun H hq=>facts_any l (.slice A2 l.length c2) H hq hok hl
 have hof:=fun b H q1 q2=>of_any (factsE l) (factsE_ok hok) b _ x (.slice A na ca) H (Nat.le_refl _) q1 hw q2
 rw [ev_facts] at hof
 refine oQ Tryz.func66 (c:=Tryz.f66.body.getD .skip) (N:=27) ?_
 intro hbx hbad Q hQ
 refine go2 27 [.own,.own,.b 1 0,.cl 104 #[.agg #[Vi x.op,Vi x.k,Vi x.n,.string x.s,.string x.nm,.slice A na ca]] (Vi 0)] [] ?_ (ho:=(And.intro (fun H sH=>hck _ (hx.sees sH)) (trivial)))
 intro b1 b2
 refine lQ (fun H sH=>hfa _ (hr.sees sH)) ?_; rintro _ W3 S4 ⟨bm,rfl,hmp⟩
 refine go0 21 [.b 1 0] [] ?_
 refine go0 6 [.cl 106 #[.map (some bm),.agg #[Vi x.op,Vi x.k,Vi x.n,.string x.s,.string x.nm,.slice A na ca]] (.agg #[Vi ((nK l x).k),Vi ((nK l x).n),.string ((nK l x).s)]),.b 0 0] [] ?_ (ho:=(And.intro (fun H sH=>hof _ _ (hx.sees (S4.trans sH)) (hmp.sees sH)) (trivial)))
 refine hQ.to [.agg #[Vi ((nK l x).k),Vi ((nK l x).n),.string ((nK l x).s)],Vi 0] (fun H sH=>?_) (ix:=[0])
 exact rfl
end Go.Proofs.YtmoahpojchndiaaGreat
namespace Go.Proofs.YtmoahpojchndiaaGreat
open Go.RowKit
theorem ex_ind {p:Ex→Prop} (h:∀ x:Ex,(∀ y∈x.args,p y)→p x) (x:Ex):p x:=by
 have key:∀ (m:Nat) (x:Ex),(szE x).1≤m→p x:=by
  intro m
  induction m with
  | zero=>intro x hx; have:=szE_pos x; omega
  | succ m ih =>
   intro x hx
   refine h x fun y hy=>ih y ?_
   have h1:=qY x
   have h2:=(szL_mem hy).1
   rw [h1] at hx
   simp only at hx
   omega
 exact key _ x (Nat.le_refl _)
mutual
def nX:Ex→List ByteArray
 | .mk op _ _ _ nm args=>(if op=2 then [nm] else [])++pX args
def pX:List Ex→List ByteArray
 | []=>[]
 | x :: l=>nX x++pX l
end
theorem oX (x:Ex):nX x=(if x.op=2 then [x.nm] else [])++pX x.args:=by
 obtain ⟨a,b,c,d,e,l⟩:=x
 rw [nX]; rfl
theorem refsL_app (l m:List Ex):pX (l++m)=pX l++pX m:=by
 induction l with
 | nil=>simp [pX]
 | cons x l ih=>rw [List.cons_append,pX,pX,ih,List.append_assoc]
theorem mem_refsL {s:ByteArray}:∀ {l:List Ex},s∈pX l↔∃ x∈l,s∈nX x
 | []=>by simp [pX]
 | x :: l=>by rw [pX,List.mem_append,mem_refsL (l:=l)]; simp
theorem refs_op (op:Int) (l:List Ex) (h:op≠2):nX (opE op l)=pX l:=by
 rw [oX,if_neg (show ¬ (opE op l).op=2 from h)]; rfl
theorem refs_ref (s:ByteArray):nX (refE s)=[s]:=by
 rw [oX,if_pos (show (refE s).op=2 from rfl)]; rfl
mutual
def putE (n:ByteArray) (y:Ex):Ex→Ex
 | .mk op k m s nm args=>if op=2∧nm=n then y else .mk op k m s nm (putL n y args)
def putL (n:ByteArray) (y:Ex):List Ex→List Ex
 | []=>[]
 | x :: l=>putE n y x :: putL n y l
end
theorem ref_shape {x:Ex} (h:WfE x) (h2:x.op=2):x=refE x.nm∧rJ x.nm.data.toList:=by
 rcases h.top with ⟨h1,-⟩ | ⟨h1,hn,hk,hm,hs,ha⟩ | ⟨h1,-⟩
 ·omega
 ·obtain ⟨a,b,c,d,e,l⟩:=x
  simp only [Ex.op,Ex.k,Ex.n,Ex.s,Ex.args] at h1 hk hm hs ha
  have ha:l=[]:=List.length_eq_zero_iff.1 ha
  subst h1 hk hm hs ha
  exact ⟨rfl,hn⟩
 ·omega
theorem ref_args {x:Ex} (h:WfE x) (h2:x.op=2):x.args=[]:=by rw [(ref_shape h h2).1]; rfl
end Go.Proofs.YtmoahpojchndiaaGreat
namespace Go.Proofs.YtmoahpojchndiaaGreat
open Go.RowKit
theorem env_hit (env:Env) (n:ByteArray) (v:Vl):Env.get ((n,v) :: env) n=some v:=by
 unfold Env.get
 rw [if_pos ((Go.MapKept.bytes_beq n n).2 rfl)]
theorem env_miss (env:Env) {n s:ByteArray} (v:Vl) (h:s≠n):Env.get ((n,v) :: env) s=env.get s:=by
 conv=>lhs; unfold Env.get
 rw [if_neg]
 intro hb
 exact h ((Go.MapKept.bytes_beq s n).1 hb)
def evalOp (g:Option Vl) (op k n:Int) (s:ByteArray) (vs:List Vl):Vl :=
 if op=1 then ⟨k,n,s⟩
 else if op=2 then (match g with | some v=>v | none=>wK 5)
 else if op=15∨op=16 then
  (if (fQ (hdV vs 0)).2=false∨((fQ (hdV vs 0)).1.n == 1)=(op == 16) then (fQ (hdV vs 0)).1 else xJ (hdV vs 1))
 else if op=17 then
  (if (fQ (hdV vs 0)).2=false then (fQ (hdV vs 0)).1 else if (fQ (hdV vs 0)).1.n=1 then hdV vs 1 else hdV vs 2)
 else (match rV none vs with | some v=>v | none=>nJ op vs)
theorem evalE_op (env:Env) (x:Ex):nK env x=evalOp (env.get x.nm) x.op x.k x.n x.s (oK env x.args):=by
 obtain ⟨a,b,c,d,e,l⟩:=x
 rw [nK]; rfl
theorem evalOp_get {g g':Option Vl} {op k n:Int} {s:ByteArray} {vs:List Vl} (h:op≠2):evalOp g op k n s vs=evalOp g' op k n s vs:=by
 unfold evalOp
 rw [if_neg h,if_neg h]
theorem eval_local {e1 e2:Env} {x:Ex} (h:∀ s∈nX x,e1.get s=e2.get s):nK e1 x=nK e2 x:=by
 revert h
 refine ex_ind (p:=fun x=>(∀ s∈nX x,e1.get s=e2.get s)→nK e1 x=nK e2 x) (fun x ih h=>?_) x
 rw [oX] at h
 have hl:oK e1 x.args=oK e2 x.args:=by
  rw [pK,pK]
  exact List.map_congr_left fun y hy=>ih y hy fun s hs=>h s (List.mem_append_right _ (mem_refsL.2 ⟨y,hy,hs⟩))
 rw [evalE_op,evalE_op,hl]
 by_cases h2:x.op=2
 ·rw [h x.nm (by rw [if_pos h2]; simp)]
 ·exact evalOp_get h2
def Grows (w v:Vl):Prop:=w.k=4∨v=w∨(v.k=5∧w.k=5)
theorem Grows.rfl' (v:Vl):Grows v v:=.inr (.inl rfl)
inductive GrowsL:List Vl→List Vl→Prop
 | nil:GrowsL [] []
 | cons {w v:Vl} {l m:List Vl} (h:Grows w v) (k:GrowsL l m):GrowsL (w :: l) (v :: m)
theorem GrowsL.hd {l m:List Vl} (h:GrowsL l m) (i:Nat):Grows (hdV l i) (hdV m i):=by
 induction h generalizing i with
 | nil=>exact .rfl' _
 | cons h k ih =>
  cases i with
  | zero=>exact h
  | succ i=>exact ih i
theorem GrowsL.map {f g:Ex→Vl}:∀ {l:List Ex},(∀ y∈l,Grows (f y) (g y))→GrowsL (l.map f) (l.map g)
 | [],_=>.nil
 | x :: l,h=>.cons (h x (by simp)) (GrowsL.map fun y hy=>h y (by simp [hy]))
end Go.Proofs.YtmoahpojchndiaaGreat
namespace Go.Proofs.YtmoahpojchndiaaGreat
open Go.RowKit Go.Shelf
attribute [local go_sem] Oper.semAt_some
structure KeepsCells (W W':World):Prop where
 size:W.heap.size≤W'.heap.size
 same:∀ (k:Nat) (o:Obj),W.heap[k]?=some o→o.isCells=true→W'.heap[k]?=some o
theorem KeepsCells.refl (W:World):KeepsCells W W:=⟨Nat.le_refl _,fun _ _ h _=>h⟩
theorem KeepsCells.trans {A B C:World} (h:KeepsCells A B) (k:KeepsCells B C):KeepsCells A C:=⟨Nat.le_trans h.size k.size,fun i o hi ho=>k.same i o (h.same i o hi ho) ho⟩
theorem KeepsCells.grown {W W':World} {row:Option Nat} (hg:W.grownBy W' row) (hr:∀ r,row=some r→∃ o:Obj,W.heap[r]?=some o∧o.isCells=false):KeepsCells W W' :=
 ⟨hg.size,fun k o hk ho=>(hg.block k (Array.getElem?_eq_some_iff.1 hk).1 (fun e=>by
  obtain ⟨o',h1,h2⟩:=hr k e.symm
  rw [hk] at h1
  simp only [Option.some.injEq] at h1
  subst h1
  rw [ho] at h2; cases h2)).trans hk⟩
theorem KeepsCells.alloc (W:World) (o:Obj):KeepsCells W (W.alloc o):=.grown (World.grownBy_alloc W o none) (fun r e=>by cases e)
theorem KeepsCells.boxed {W W':World} (h:KeepsCells W W') {b:Nat} {t:TypeId} {v:Value} (hb:Boxed W b t v):Boxed W' b t v:=h.same b _ hb rfl
theorem KeepsCells.cell {W W':World} (h:KeepsCells W W') {a:Addr} {v:Value} (hc:W.cell? a=some v):W'.cell? a=some v:=by
 unfold World.cell? at hc ⊢
 cases ho:W.heap[a.block]? with
 | none=>rw [ho] at hc; cases hc
 | some o =>
  rw [ho] at hc
  cases o with
  | cells cs t f=>rw [h.same _ _ ho rfl]; exact hc
  | _=>cases hc
structure Kp (n:Nat) (W W':World):Prop where
 below:Below n W W'
 cells:KeepsCells W W'
theorem Kp.refl (n:Nat) (W:World):Kp n W W:=⟨Below.refl _ _,KeepsCells.refl _⟩
theorem Kp.trans {n:Nat} {A B C:World} (h:Kp n A B) (k:Kp n B C):Kp n A C:=⟨h.below.trans k.below,h.cells.trans k.cells⟩
theorem Kp.alloc {n:Nat} {W:World} (hn:n≤W.heap.size) (o:Obj):Kp n W (W.alloc o):=⟨(Below.refl _ _).alloc hn _,KeepsCells.alloc _ _⟩
theorem kp_t {n:Nat} {A B C:World} (h:Kp n A B) (k:Kp n B C):Kp n A C:=h.trans k
theorem kp_b {n:Nat} {w:World} (hn:n≤w.heap.size) (W:World) (l:Nat) (o o':Obj) (hl:w.heap.size≤l) (h:W.heap[l]?=some o) (hc:o.isCells=false) (hw:o.isWalk=false):Kp n W (W.putObj l o') :=
 ⟨belowK_b hn W l o o' hl h hc hw,.grown (grownBy_putObj' W l o') (fun r e=>by cases e; exact ⟨o,h,hc⟩)⟩
theorem sees_below {h:Vw} {W:World} (hb:Below h.w.heap.size h.w W):Sees h ⟨W,h.bad⟩:=⟨hb.size,fun b hlt _=>hb.block b hlt,fun _ hb _=>hb⟩
theorem grown_none {W W':World} (hb:Below W.heap.size W W'):W.grownBy W' none:=⟨hb.os,hb.tape,hb.output,hb.size,fun k hk _=>hb.block k hk⟩
theorem room_of_none {F:Fence} (hd:F.depth=none) (k:Nat):F.room k:=fun d h=>by rw [hd] at h; cases h
theorem RoundIn.anyDepth {F:Fence} (hd:F.depth=none) {m m':Nat} {P:Program} {l:Nat} {f:FuncId} {tmps:Array Value} {assign body:Code} {w:World} {R:Ending→World→Prop}
  (h:RoundIn F m P l f tmps assign body w R):RoundIn F m' P l f tmps assign body w R:=⟨h.1,fun c cs _=>h.2 c cs (room_of_none hd _)⟩
theorem YieldAt.anyDepth {F:Fence} (hd:F.depth=none) {m:Nat} (m':Nat) {P:Program} {l:Nat} {args:Array Value} {W:World} {R:Ending→World→Prop} (h:YieldAt F m P l args W R):YieldAt F m' P l args W R:=by
 obtain ⟨fn,tmps,assign,body,hy,hR⟩:=h
 exact ⟨fn,tmps,assign,body,hy,RoundIn.anyDepth hd hR⟩
theorem bZ (k:Nat):Fence.wide.depth.isSome=true→1≤k:=fun h=>by
 have e:Fence.wide.depth=none:=rfl
 rw [e] at h; cases h
def WalkPost (n₀:Nat) (J Jx:List ByteArray→World→Prop) (pre r:List ByteArray) (W:World) (e:Ending) (W':World):Prop :=
 (e=.returned (.bool true)∧J (pre++r) W'∧Kp n₀ W W')∨(e=.returned (.bool false)∧∃ q,q <+: r∧Jx (pre++q) W')
def YieldPost (n₀:Nat) (J Jx:List ByteArray→World→Prop) (pre:List ByteArray) (s:ByteArray) (W:World) (e:Ending) (W':World):Prop :=
 (e=.returned (.bool true)∧J (pre++[s]) W'∧Kp n₀ W W')∨(e=.returned (.bool false)∧Jx (pre++[s]) W')
abbrev walkV (bY bW:Nat):Value:=.func (.func 219) #[] #[.pointer (some ⟨bY,0,none⟩),.pointer (some ⟨bW,0,none⟩)]
set_option maxHeartbeats 2000000 in
theorem walk_ref (l bY bW N B:Nat) (n₀:Nat) (J Jx:List ByteArray→World→Prop) (hJ:AbidesFrom B J)
  (hY:∀ m pre s W,J pre W→pre.length < N→YieldAt Fence.wide m Tryz.prog l #[.string s] W (YieldPost n₀ J Jx pre s W))
  (s:ByteArray) (A:Option Addr) (c n:Nat) (pre:List ByteArray) (W:World) (hn:n₀≤W.heap.size) (bY':Boxed W bY 266 (.func (.yield l) #[] #[])) (hj:J pre W) (hN:pre.length < N) :
  CallsIn Fence.wide n Tryz.prog 219 #[.agg #[.int .i64 2,.int .i64 0,.int .i64 0,.string ⟨#[]⟩,.string s,.slice A 0 c],.pointer (some ⟨bY,0,none⟩),.pointer (some ⟨bW,0,none⟩)] W
   (WalkPost n₀ J Jx pre [s] W):=by
 have hj2:J pre (W.alloc (.cells #[.int .i64 2,.int .i64 0,.int .i64 0,.string ⟨#[]⟩,.string s,.slice A 0 c] 54)):=hJ pre W _ none hj (World.grownBy_alloc W _ none) (fun r e=>by cases e)
 obtain ⟨fn,tmps,assign,body,hy,hR⟩:=hY (n - 1) pre s _ hj2 hN
 have cY:=(bY'.alloc (.cells #[.int .i64 2,.int .i64 0,.int .i64 0,.string ⟨#[]⟩,.string s,.slice A 0 c] 54)).cell
 have bx:=Box.new W #[.int .i64 2,.int .i64 0,.int .i64 0,.string ⟨#[]⟩,.string s,.slice A 0 c] 54
 have hk0:=Kp.alloc hn (.cells #[.int .i64 2,.int .i64 0,.int .i64 0,.string ⟨#[]⟩,.string s,.slice A 0 c] 54)
 have hR2:=hR.mono (R':=fun e W2=>(e=.returned (.bool true)∧J (pre++[s]) W2∧Kp n₀ _ W2∧W2.cell? ⟨W.heap.size,5,none⟩=some (.slice A 0 c))∨(e=.returned (.bool false)∧Jx (pre++[s]) W2))
  (fun e W2 h=>h.elim (fun ⟨a,b,k⟩=>.inl ⟨a,b,k,k.cells.cell (bx.cells 5 _ rfl)⟩) .inr)
 clear hR
 refine callsIn_of_wp Tryz.func219 rfl trivial ?_ rfl
 simp only [Tryz.ntmps219,List.size_toArray,List.length_cons,List.length_nil,Nat.reduceAdd,Nat.reduceSub,Array.replicate_succ,Array.replicate_zero,List.push_toArray,List.append_toArray,List.nil_append,List.cons_append]
 gi_wp2_with ((try refine ⟨bZ _,?_⟩); refine hR2.mono ?_; clear hR2; rintro e W2 (⟨rfl,hJ2,hk2,c5⟩ | ⟨rfl,hx2⟩))
 ·gi_loopw [20] (fun i wr=>i=.int .i64 0∧W2=wr) (fun _ _=>0)
  case atStart=>exact ⟨rfl,rfl⟩
  case round =>
   obtain ⟨rfl,rfl⟩:=hrel
   gi_wp2
   go_ret
   exact .inl ⟨rfl,hJ2,hk0.trans hk2⟩
 ·go_ret
  exact .inr ⟨rfl,[s],List.prefix_refl _,hx2⟩
set_option maxHeartbeats 2000000 in
theorem walk_any (l bY bW N B:Nat) (h:Vw) (J Jx:List ByteArray→World→Prop) (hJ:AbidesFrom B J)
  (hY:∀ m pre s W,J pre W→pre.length < N→YieldAt Fence.wide m Tryz.prog l #[.string s] W (YieldPost h.w.heap.size J Jx pre s W)) (x:Ex) :
  ∀ (v:Value) (n:Nat) (pre:List ByteArray) (W:World),IsArgs h x v→WfE x→Below h.w.heap.size h.w W→Boxed W bY 266 (.func (.yield l) #[] #[])→Boxed W bW 286 (walkV bY bW)→J pre W→pre.length + (nX x).length≤N → 
  CallsIn Fence.wide n Tryz.prog 219 #[.agg #[.int .i64 x.op,.int .i64 x.k,.int .i64 x.n,.string x.s,.string x.nm,v],.pointer (some ⟨bY,0,none⟩),.pointer (some ⟨bW,0,none⟩)] W (WalkPost h.w.heap.size J Jx pre (nX x) W):=by
 refine ex_ind (p:=fun x=>∀ (v:Value) (n:Nat) (pre:List ByteArray) (W:World),IsArgs h x v→WfE x→Below h.w.heap.size h.w W→Boxed W bY 266 (.func (.yield l) #[] #[])→Boxed W bW 286 (walkV bY bW)→J pre W→pre.length + (nX x).length≤N → 
  CallsIn Fence.wide n Tryz.prog 219 #[.agg #[.int .i64 x.op,.int .i64 x.k,.int .i64 x.n,.string x.s,.string x.nm,v],.pointer (some ⟨bY,0,none⟩),.pointer (some ⟨bW,0,none⟩)] W (WalkPost h.w.heap.size J Jx pre (nX x) W)) (fun x ih v n pre W hx hw hb hbY hbW hj hN=>?_) x
 by_cases h2:x.op=2
 ·obtain ⟨e,-⟩:=ref_shape hw h2
  obtain ⟨A,n',c,rfl⟩:=hx.slice
  have hn0:n'=0:=by
   obtain ⟨vs,hr,hvs⟩:=hx.form
   obtain ⟨A',c',e',-⟩:=hr.form
   rw [tK hvs.len,ref_args hw h2] at e'
   simp at e'
   exact e'.2.1
  subst hn0
  rw [e]
  rw [e,refs_ref] at hN ⊢
  exact walk_ref l bY bW N B h.w.heap.size J Jx hJ hY x.nm A c n pre W hb.size hbY hj (by simp at hN; omega)
 ·rw [oX,if_neg h2,List.nil_append] at hN ⊢
  obtain ⟨vs,hr,hvs⟩:=hx.form
  obtain ⟨A,ca,rfl,hc1,hc2,-⟩:=hr.form
  have hvl:=hvs.len
  have hrl:=tK hvl
  rw [hrl] at hc1 hr ⊢
  have HR:=Lib.hid hr
  have HV:=Lib.hid hvs
  have HIH:=Lib.hid ih
  have HWL:=Lib.hid hw.list
  have HB:=Lib.hid hb
  have hop:(x.op == 2)=false:=beq_eq_false_iff_ne.2 h2
  have hj2:J pre (W.alloc (.cells #[.int .i64 x.op,.int .i64 x.k,.int .i64 x.n,.string x.s,.string x.nm,.slice A x.args.length ca] 54)):=hJ pre W _ none hj (World.grownBy_alloc W _ none) (fun r e=>by cases e)
  have hk0:=Kp.alloc hb.size (.cells #[.int .i64 x.op,.int .i64 x.k,.int .i64 x.n,.string x.s,.string x.nm,.slice A x.args.length ca] 54)
  clear hx hr hvs hw hb hrl hvl
  generalize hL:x.args.length=len at *
  unfold maxLen at hc2
  refine callsIn_of_wp Tryz.func219 rfl trivial ?_ rfl
  simp only [Tryz.ntmps219,List.size_toArray,List.length_cons,List.length_nil,Nat.reduceAdd,Nat.reduceSub,Array.replicate_succ,Array.replicate_zero,List.push_toArray,List.append_toArray,List.nil_append,List.cons_append]
  gi_wp2
  refine ⟨fun _ h=>(by cases h),?_⟩
  gi_wp2
  gi_loopw [20] (fun i wr=>∃ k:Nat,k≤len∧i=.int .i64 k∧J (pre++pX (x.args.take k)) wr∧Kp h.w.heap.size W wr) (fun i _=>len - (intOf i).toNat)
  case atStart=>exact ⟨0,Nat.zero_le _,rfl,by simpa [pX] using hj2,hk0⟩
  case round =>
   obtain ⟨k,hk,rfl,hjk,hkk⟩:=hrel
   by_cases hlt:k < len
   ·obtain ⟨y,hy⟩:∃ y,x.args[k]?=some y:=⟨_,List.getElem?_eq_getElem (by omega)⟩
    obtain ⟨u,hu⟩:∃ u,vs[k]?=some u:=⟨_,List.getElem?_eq_getElem (by have:=HV.out.len; omega)⟩
    have hyu:=AllArgs.get HV.out hy hu
    obtain ⟨Au,nu,cu,rfl⟩:=hyu.slice
    have hrow:(sK x.args vs)[k]?=some (exRow y (.slice Au nu cu)):=by show (List.zipWith exRow _ _)[k]?=_; rw [List.getElem?_zipWith,hy,hu]
    obtain ⟨b,off,rfl,-,hc⟩:=HR.out.row hrow
    have hbr:=HB.out.trans hkk.below
    have hc:=hc.sees (sees_below hbr)
    have c0:wr.cell? ⟨b,off + k * 6,none⟩=_:=hc.lies 0 _ rfl
    have c1:wr.cell? ⟨b,off + k * 6 + 1,none⟩=_:=hc.lies 1 _ rfl
    have c2:wr.cell? ⟨b,off + k * 6 + 2,none⟩=_:=hc.lies 2 _ rfl
    have c3:wr.cell? ⟨b,off + k * 6 + 3,none⟩=_:=hc.lies 3 _ rfl
    have c4:wr.cell? ⟨b,off + k * 6 + 4,none⟩=_:=hc.lies 4 _ rfl
    have c5:wr.cell? ⟨b,off + k * 6 + 5,none⟩=_:=hc.lies 5 _ rfl
    clear hc hrow hu
    have hym:=List.mem_of_getElem? hy
    have hsn:pX (x.args.take (k + 1))=pX (x.args.take k)++nX y:=by rw [sY _ k y hy,refsL_app]; simp [pX]
    have hle:(pX (x.args.take (k + 1))).length≤(pX x.args).length:=by
     have:=congrArg (fun l=>(pX l).length) (List.take_append_drop (k + 1) x.args)
     simp only [refsL_app,List.length_append] at this
     omega
    rw [hsn,List.length_append] at hle
    have hal:Kp h.w.heap.size wr (wr.alloc (.cells #[.int .i64 y.op,.int .i64 y.k,.int .i64 y.n,.string y.s,.string y.nm,.slice Au nu cu] 54)):=Kp.alloc hbr.size _
    have bY2:=(hkk.cells.boxed hbY).alloc (.cells #[.int .i64 y.op,.int .i64 y.k,.int .i64 y.n,.string y.s,.string y.nm,.slice Au nu cu] 54)
    have bW2:=(hkk.cells.boxed hbW).alloc (.cells #[.int .i64 y.op,.int .i64 y.k,.int .i64 y.n,.string y.s,.string y.nm,.slice Au nu cu] 54)
    have cW:=bW2.cell
    have hcall:=HIH.out y hym (.slice Au nu cu) (n - 1) (pre++pX (x.args.take k)) (wr.alloc (.cells #[.int .i64 y.op,.int .i64 y.k,.int .i64 y.n,.string y.s,.string y.nm,.slice Au nu cu] 54)) hyu (HWL.out.get hym) (hbr.trans hal.below) bY2 bW2
     (hJ _ wr _ none hjk (World.grownBy_alloc wr _ none) (fun r e=>by cases e)) (by rw [List.length_append]; omega)
    have HS:=Lib.hid hsn
    clear hsn bY2 bW2
    gi_wp2_with ((try refine ⟨trivial,?_⟩); (try refine ⟨bZ _,?_⟩); gi_at_call 219; refine hcall.mono ?_; clear hcall; rintro e W2 (⟨rfl,hJ2,hk2⟩ | ⟨rfl,q,hq,hx2⟩))
    ·go_roundw
     case rel=>exact ⟨k + 1,by omega,by go_num,by rw [HS.out,← List.append_assoc]; exact hJ2,(hkk.trans hal).trans hk2⟩
     case measure=>simp [intOf]; omega
    ·go_ret
     refine .inr ⟨rfl,pX (x.args.take k)++q,?_,by rw [← List.append_assoc]; exact hx2⟩
     have hp:pX (x.args.take (k + 1)) <+: pX x.args:=by
      conv=>rhs; rw [← List.take_append_drop (k + 1) x.args,refsL_app]
      exact List.prefix_append _ _
     rw [HS.out] at hp
     exact ((List.prefix_append_right_inj _).2 hq).trans hp
   ·obtain rfl:k=len:=by omega
    have hta:x.args.take k=x.args:=by rw [← hL,List.take_length]
    rw [hta] at hjk
    clear hta
    gi_wp2
    go_ret
    exact .inl ⟨rfl,hjk,hkk⟩
theorem refs_in (x:Ex) (v:Value) (n:Nat) (W:World) :
  CallsIn Fence.wide n Tryz.prog 211 #[.agg #[.int .i64 x.op,.int .i64 x.k,.int .i64 x.n,.string x.s,.string x.nm,v]] W fun e W'=>e=.returned (.func (.func 218) #[] #[.pointer (some ⟨W.heap.size,0,none⟩)])∧W'=W.alloc (.cells #[.int .i64 x.op,.int .i64 x.k,.int .i64 x.n,.string x.s,.string x.nm,v] 54):=by
 refine callsIn_of_wp Tryz.func211 rfl trivial ?_ rfl
 simp only [Tryz.ntmps211,List.size_toArray,List.length_cons,List.length_nil,Nat.reduceAdd,Nat.reduceSub,Array.replicate_succ,Array.replicate_zero,List.push_toArray,List.append_toArray,List.nil_append,List.cons_append]
 gi_wp2
 go_ret
 exact ⟨rfl,rfl⟩
set_option maxHeartbeats 2000000 in
theorem refs_stops (x:Ex) (v:Value) (h:Vw) (hx:IsArgs h x v) (hw:WfE x) (n bX:Nat) (w:World) (hb:Below h.w.heap.size h.w w) (hX:w.heap[bX]?=some (.cells #[.int .i64 x.op,.int .i64 x.k,.int .i64 x.n,.string x.s,.string x.nm,v] 54 (0,0))) :
  SeqStopsK Fence.wide n Tryz.prog 218 #[.pointer (some ⟨bX,0,none⟩)] (fun s:ByteArray=>#[Value.string s]) (Kp h.w.heap.size) (fun ys=>ys=nX x) (fun pre=>pre <+: nX x) (nX x).length w:=fun l J Jx W hW hJ hJx hY h0=>by
 have hbW:Below h.w.heap.size h.w W:=hb.trans (hW.mono hb.size)
 have hX':W.heap[bX]?=some (.cells #[.int .i64 x.op,.int .i64 x.k,.int .i64 x.n,.string x.s,.string x.nm,v] 54 (0,0)):=(hW.block bX (Array.getElem?_eq_some_iff.1 hX).1).trans hX
 have hxl:=(Array.getElem?_eq_some_iff.1 hX').1
 obtain ⟨A,n',c,rfl⟩:=hx.slice
 obtain ⟨W1,hW1⟩:∃ W1,W1=W.alloc (.cells #[.func (.yield l) #[] #[]] 266):=⟨_,rfl⟩
 have bY1:Boxed W1 W.heap.size 266 (.func (.yield l) #[] #[]):=by rw [hW1]; exact Boxed.new _ _ _
 have z1:W1.heap.size=W.heap.size + 1:=by rw [hW1]; simp
 have b1:Below W.heap.size W W1:=by rw [hW1]; exact (Below.refl _ _).alloc (Nat.le_refl _) _
 obtain ⟨W3,hW3⟩:∃ W3,W3=W1.alloc (.cells #[walkV W.heap.size (W.heap.size + 1)] 286):=⟨_,rfl⟩
 have bW3:Boxed W3 (W.heap.size + 1) 286 (walkV W.heap.size (W.heap.size + 1)):=by rw [hW3,← z1]; exact Boxed.new _ _ _
 have bY3:Boxed W3 W.heap.size 266 (.func (.yield l) #[] #[]):=by rw [hW3]; exact bY1.alloc _
 have b3:Below W.heap.size W W3:=by rw [hW3]; exact b1.alloc (by omega) _
 have c0:W.cell? ⟨bX,0,none⟩=some (.int .i64 x.op):=by simp [World.cell?,hX']
 have c1:W.cell? ⟨bX,1,none⟩=some (.int .i64 x.k):=by simp [World.cell?,hX']
 have c2:W.cell? ⟨bX,2,none⟩=some (.int .i64 x.n):=by simp [World.cell?,hX']
 have c3:W.cell? ⟨bX,3,none⟩=some (.string x.s):=by simp [World.cell?,hX']
 have c4:W.cell? ⟨bX,4,none⟩=some (.string x.nm):=by simp [World.cell?,hX']
 have c5:W.cell? ⟨bX,5,none⟩=some (.slice A n' c):=by simp [World.cell?,hX']
 have hcall:=walk_any l W.heap.size (W.heap.size + 1) (nX x).length W.heap.size h J Jx hJ
  (fun m pre s W hj hl=>YieldAt.mono (YieldAt.anyDepth (show Fence.wide.depth=none from rfl) m (hY pre s W hj hl)) (fun e W' q=>q)) x (.slice A n' c) (n - 1) [] W3 hx hw (hbW.trans (b3.mono hbW.size)) bY3 bW3 (hJ [] W W3 none h0 (grown_none b3) (fun r e=>by cases e)) (by simp)
 clear hx hw hbW hb hX hX' bY1 bY3 bW3 b1 b3 hY hJ hJx hW
 rw [hW3] at hcall
 clear hW3
 rw [hW1] at hcall
 clear hW1 z1 W1 W3
 refine callsIn_of_wp Tryz.func218 rfl trivial ?_ rfl
 simp only [Tryz.ntmps218,List.size_toArray,List.length_cons,List.length_nil,Nat.reduceAdd,Nat.reduceSub,Array.replicate_succ,Array.replicate_zero,List.push_toArray,List.append_toArray,List.nil_append,List.cons_append]
 gi_wp2_with ((try refine ⟨trivial,?_⟩); (try refine ⟨bZ _,?_⟩); gi_at_call 219; refine hcall.mono ?_; clear hcall; rintro e W4 (⟨rfl,hJ4,-⟩ | ⟨rfl,q,hq,hx4⟩))
 ·go_end0
  exact ⟨⟨_,rfl⟩,.inl ⟨_,rfl,hJ4⟩⟩
 ·go_end0
  exact ⟨⟨_,rfl⟩,.inr ⟨q,hq,hx4⟩⟩
end Go.Proofs.YtmoahpojchndiaaGreat
namespace Go.Proofs.YtmoahpojchndiaaGreat
open Go.RowKit
def sidx (s:ByteArray):List (ByteArray × Value)→Option Nat
 | []=>none
 | (k,_) :: l=>if s == k then some 0 else (sidx s l).map (· + 1)
theorem sidx_none {s:ByteArray}:∀ {l:List (ByteArray × Value)},sidx s l=none→sget s l=none
 | [],_=>rfl
 | (k,v) :: l,h=>by
  unfold sidx at h
  unfold sget
  split at h
  ·cases h
  ·rename_i g
   rw [if_neg g]
   exact sidx_none (by simpa using h)
theorem sidx_some {s:ByteArray}:∀ {l:List (ByteArray × Value)} {j:Nat},sidx s l=some j→∃ u,l[j]?=some (s,u)∧(∀ i z,Instr.findNow .string (.string s) (((oY l).zipIdx z).map fun p=>⟨p.1.1,p.1.2,p.2⟩) i=some (some (i + j,u))) ∧
  ∀ v t,sget t (l.set j (s,v))=if t=s then some v else sget t l
 | [],j,h=>by cases h
 | (k,u) :: l,j,h=>by
  unfold sidx at h
  split at h
  ·rename_i g
   simp only [Option.some.injEq] at h
   subst h
   obtain rfl:=(Go.MapKept.bytes_beq s k).1 g
   refine ⟨u,rfl,fun i z=>?_,fun v t=>?_⟩
   ·simp only [oY,List.map_cons,List.zipIdx_cons]
    unfold Instr.findNow
    have hsn:Instr.sameNow .string (.string s) (.string s)=some (s == s):=rfl
    simp only [hsn,g,Nat.add_zero]
   ·rw [List.set_cons_zero]
    unfold sget
    by_cases e:t=s
    ·rw [if_pos e,if_pos (by rw [e]; exact g)]
    ·rw [if_neg e,if_neg (fun q=>e ((Go.MapKept.bytes_beq t s).1 q)),if_neg (fun q=>e ((Go.MapKept.bytes_beq t s).1 q))]
  ·rename_i g
   obtain ⟨j',hj,rfl⟩:=Option.map_eq_some_iff.1 h
   obtain ⟨u',h1,h2,h3⟩:=sidx_some hj
   refine ⟨u',by simpa using h1,fun i z=>?_,fun v t=>?_⟩
   ·simp only [oY,List.map_cons,List.zipIdx_cons]
    unfold Instr.findNow
    have hsn:Instr.sameNow .string (.string s) (.string k)=some (s == k):=rfl
    simp only [hsn,g]
    rw [show i + (j' + 1)=i + 1 + j' by omega]
    exact h2 (i + 1) (z + 1)
   ·rw [List.set_cons_succ]
    unfold sget
    rw [h3 v t]
    by_cases e:t=s
    ·subst e; rw [if_neg g,if_pos rfl,if_pos rfl]
    ·rw [if_neg e,if_neg e]
theorem sget_snoc {s t:ByteArray} {v:Value}:∀ {l:List (ByteArray × Value)},sget s l=none→sget t (l++[(s,v)])=if t=s then some v else sget t l
 | [],_=>by
  show (if t == s then some v else none)=_
  by_cases e:t=s
  ·rw [if_pos e,if_pos ((Go.MapKept.bytes_beq t s).2 e)]
  ·rw [if_neg e,if_neg (fun q=>e ((Go.MapKept.bytes_beq t s).1 q))]; rfl
 | (k,u) :: l,h=>by
  unfold sget at h
  split at h
  ·cases h
  ·rename_i g
   rw [List.cons_append]
   unfold sget
   rw [sget_snoc h]
   by_cases e:t=s
   ·subst e; rw [if_neg g,if_pos rfl,if_pos rfl]
   ·rw [if_neg e,if_neg e]
theorem sget_out {s:ByteArray}:∀ {l:List (ByteArray × Value)},sget s l=none→∀ q∈l,q.1≠s
 | (k,v) :: l,h,q,hq,e=>by
  unfold sget at h
  split at h
  ·cases h
  ·rename_i g
   rcases List.mem_cons.1 hq with rfl | hq
   ·exact g ((Go.MapKept.bytes_beq s k).2 e.symm)
   ·exact sget_out h q hq e
theorem ments_get (es:List (Value × Value)) (i:Nat):(ments es)[i]?=(es[i]?).map fun p=>⟨p.1,p.2,i⟩:=by
 unfold ments
 rw [List.getElem?_map,List.getElem?_zipIdx]
 cases es[i]? <;> simp
theorem run_update_str {P:Program} {w:World} {b:Nat} {l:List (ByteArray × Value)} {t kt et:TypeId} {s:ByteArray} {v:Value} (hb:w.heap[b]?=some (wV (oY l))) (ht:P.underlying t=some (.map kt et)) (htd:P.underlying kt=some .string) :
  ∃ l',(Instr.mapUpdate t (.map (some b)) (.string s) v).run P w=.ok () { w with heap:=w.heap.setIfInBounds b (wV (oY l')) }∧(∀ t,sget t l'=if t=s then some v else sget t l)∧((l.map (·.1)).Nodup→(l'.map (·.1)).Nodup)∧∀ p∈l',p∈l∨p=(s,v):=by
 cases hs:sidx s l with
 | none =>
  have hn:=sidx_none hs
  refine ⟨l++[(s,v)],?_,fun t=>sget_snoc hn,fun hd=>?_,fun p hp=>(List.mem_append.1 hp).imp id List.mem_singleton.1⟩
  rotate_left
  ·rw [List.map_append,List.nodup_append]
   refine ⟨hd,by simp,fun x hx y hy e=>?_⟩
   simp only [List.map_cons,List.map_nil,List.mem_singleton] at hy
   subst hy e
   obtain ⟨q,hq,e2⟩:=List.mem_map.1 hx
   exact sget_out hn q hq e2
  have:=run_update_at (P:=P) (v:=v) hb ht htd (k:=.string s) rfl (mfind_none hn)
  rw [this,show oY (l++[(s,v)])=oY l++[(.string s,v)] by simp [oY]]
 | some j =>
  obtain ⟨u,h1,h2,h3⟩:=sidx_some hs
  refine ⟨l.set j (s,v),?_,h3 v,fun hd=>?_,fun p hp=>List.mem_or_eq_of_mem_set hp⟩
  rotate_left
  ·have:(l.set j (s,v)).map (·.1)=l.map (·.1):=by
    refine List.ext_getElem? fun i=>?_
    rw [List.getElem?_map,List.getElem?_map,List.getElem?_set]
    have hlt:=(List.getElem?_eq_some_iff.1 h1).1
    by_cases e:j=i
    ·subst e; rw [if_pos rfl,if_pos hlt,h1]; rfl
    ·rw [if_neg e]
   rw [this]; exact hd
  have hf:Instr.findNow .string (.string s) (ments (oY l)).toArray.toList 0=some (some (j,u)):=by
   have:=h2 0 0
   rw [Nat.zero_add] at this
   exact this
  have hj:(ments (oY l)).toArray[j]?=some ⟨.string s,u,j⟩:=by
   rw [List.getElem?_toArray,ments_get,oY,List.getElem?_map,h1]; rfl
  have hk:Go.MapKept.IsKey .string (.string s):=isKey_of rfl
  have hm:(ments (oY l)).toArray.modify j (fun e=>{ e with key:=.string s,val:=v })=(ments (oY (l.set j (s,v)))).toArray:=by
   apply Array.ext'
   rw [Array.toList_modify]
   refine List.ext_getElem? fun i=>?_
   show _=(ments (oY (l.set j (s,v))))[i]?
   rw [List.getElem?_modify,ments_get,ments_get,List.getElem?_map,List.getElem?_map,List.getElem?_set]
   have hlt:=(List.getElem?_eq_some_iff.1 h1).1
   by_cases e:j=i
   ·subst e; simp [hlt]
   ·simp [e]
  unfold wV at hb ⊢
  unfold Instr.mapUpdate
  simp only [Sem.run_bind,run_underlying ht,Result.andThen,Go.MapKept.run_getObj_map hb,Go.MapKept.run_checkKey htd hk,Go.MapKept.run_findKey htd hf]
  simp only [hj,Option.map_some,Option.getD_some,Go.MapKept.run_keyThatStays hk,Go.MapKept.run_setObj_map _ hb]
  rw [hm]
  simp [oY]
end Go.Proofs.YtmoahpojchndiaaGreat
namespace Go.Proofs.YtmoahpojchndiaaGreat
open Go.RowKit Go.Shelf
attribute [local go_sem] Oper.semAt_some
section
variable {F:Fence} {n:Nat} {P:Program} {w w':World} {ops:Array Oper} {rest:List Oper} {o:Oper} {a:Act} {Q:Exit→Act→World→Prop}
theorem wpListIn_mapUpdate_at (hg:o.guard=none) (m x v:Operand) (t:TypeId) (hop:o.op=Op.mapUpdate t m x v) {b key val:Value} (hm:a.eval m=b) (hx:a.eval x=key) (hv:a.eval v=val) (hr:(Instr.mapUpdate t b key val).run P w=.ok () w')
  (hK:wpListIn F n P ops Q rest (a.put o.dst undef) w'):wpListIn F n P ops Q (o :: rest) a w:=by
 refine wpListIn_plain hg fun K' hK'=>?_
 unfold Oper.wpIn
 refine ⟨by simp [Oper.about,hop],?_⟩
 rw [Oper.semAt_plain F _ _ (by rw [hop]; intro c hc'; cases hc')]
 simp [execOp,hop,hm,hx,hv,hr,Result.andThen]
 exact hK' _ _ hK
end
theorem cells_own {A:World} {b:Nat} {o:Obj} (hb:A.heap[b]?=some o) (hc:o.isCells=true) {row:Option Nat} (hr:∀ r,row=some r→∃ o:Obj,A.heap[r]?=some o∧o.isCells=false):some b≠row:=fun e=>by
 obtain ⟨o',h1,h2⟩:=hr _ e.symm
 rw [hb] at h1
 cases h1; rw [hc] at h2; cases h2
theorem grown_set {W:World} {M:Nat} {o:Obj} (o':Obj) (hm:W.heap[M]?=some o):W.grownBy { W with heap:=W.heap.setIfInBounds M o' } (some M) :=
 ⟨rfl,rfl,rfl,by simp,fun k _ ne=>(Go.MapKept.heap_set hm).2 k (fun e=>ne (by rw [e]))⟩
end Go.Proofs.YtmoahpojchndiaaGreat
namespace Go.Proofs.YtmoahpojchndiaaGreat
open Go.RowKit
def ruleT (op:Int):Option (List Int × Int) :=
 if op=3 then some ([1],1) else if op=4 then some ([2],2) else if op=18 then some ([3],1)
 else if 5≤op∧op≤9 then some ([1,1],1) else if op=10 then some ([3,3],3) else if op=15∨op=16 then some ([2,2],2) else none
def opTy (op:Int) (l:List Int):Int × Int :=
 match ruleT op with
 | some (a,t)=>if l=a then (t,0) else (0,9)
 | none=>if op=17 then (if l.getD 0 0=2∧l.getD 1 0=l.getD 2 0 then (l.getD 1 0,0) else (0,9)) else if l.getD 0 0=l.getD 1 0 then (2,0) else (0,9)
mutual
def tyE (f:ByteArray→Option Int):Ex→Int × Int
 | .mk op k _ _ nm args =>
  if op=1 then (k,0)
  else if op=2 then (match f nm with | some t=>(t,0) | none=>(0,5))
  else if (tyL f args).2=0 then opTy op (tyL f args).1 else (0,(tyL f args).2)
def tyL (f:ByteArray→Option Int):List Ex→List Int × Int
 | []=>([],0)
 | x :: l=>if (tyE f x).2=0 then (if (tyL f l).2=0 then ((tyE f x).1 :: (tyL f l).1,0) else ([],(tyL f l).2)) else ([],(tyE f x).2)
end
theorem tyE_eq (f:ByteArray→Option Int) (x:Ex):tyE f x =
  if x.op=1 then ((x.k:Int),(0:Int))
  else if x.op=2 then (match f x.nm with | some t=>((t:Int),(0:Int)) | none=>(0,5))
  else if (tyL f x.args).2=0 then opTy x.op (tyL f x.args).1 else (0,(tyL f x.args).2):=by
 obtain ⟨a,b,c,d,e,l⟩:=x
 rw [tyE]; rfl
def tyF (fs:List Fd) (s:ByteArray):Option Int:=match fs with
 | []=>none
 | f :: l=>if s == f.name then some f.ty else tyF l s
theorem tyL_get {f:ByteArray→Option Int}:∀ {l:List Ex} {ts:List Int},tyL f l=(ts,0)→l.length=ts.length∧∀ (i:Nat) (x:Ex),l[i]?=some x→∃ t,ts[i]?=some t∧tyE f x=(t,0)
 | [],ts,h=>by
  rw [tyL] at h
  simp only [Prod.mk.injEq,and_true] at h
  subst h
  exact ⟨rfl,fun i x hx=>by simp at hx⟩
 | x :: l,ts,h=>by
  rw [tyL] at h
  by_cases h1:(tyE f x).2=0
  ·rw [if_pos h1] at h
   by_cases h2:(tyL f l).2=0
   ·rw [if_pos h2] at h
    simp only [Prod.mk.injEq,and_true] at h
    subst h
    obtain ⟨a,b⟩:=tyL_get (f:=f) (l:=l) (ts:=(tyL f l).1) (Prod.ext rfl h2)
    refine ⟨by simp [a],fun i y hy=>?_⟩
    cases i with
    | zero =>
     simp only [List.getElem?_cons_zero,Option.some.injEq] at hy
     subst hy
     exact ⟨_,rfl,Prod.ext rfl h1⟩
    | succ i=>exact b i y (by simpa using hy)
   ·rw [if_neg h2] at h
    simp only [Prod.mk.injEq] at h
    exact absurd h.2 h2
  ·rw [if_neg h1] at h
   simp only [Prod.mk.injEq] at h
   exact absurd h.2 h1
theorem ty_leaf {fs:List Fd} {g:ByteArray→Option Int} (hf:∀ f∈fs,g f.name=some f.ty) (r:RawD) (kind:Int):tyE g (sV r fs kind)=(kind,0):=by
 have hc:tyE g (iK kind r)=(kind,0):=by rw [tyE_eq,if_pos (show (iK kind r).op=1 from rfl)]; rfl
 unfold sV
 split
 ·rename_i s hs
  split
  ·exact hc
  ·have hm:=List.mem_of_getElem? hs
   obtain ⟨f,hfm,rfl⟩:=List.mem_map.1 hm
   obtain ⟨h1,h2⟩:=List.mem_filter.1 hfm
   rw [tyE_eq,if_neg (show ¬ (refE f.name).op=1 by show ¬ (2:Int)=1; decide),if_pos (show (refE f.name).op=2 from rfl)]
   have e:(refE f.name).nm=f.name:=rfl
   rw [e,hf f h1]
   simp at h2
   simp [h2]
 ·exact hc
theorem many_types {f:ByteArray→Option Int} {one:Int→Nat→Ex × Nat}:∀ (ks:List Int) (n:Nat),(∀ k∈ks,∀ n,tyE f (one k n).1=(k,0))→tyL f (dJ one ks n).1=(ks,0)
 | [],n,_=>by rw [show (dJ one [] n).1=[] from rfl,tyL]
 | k :: ks,n,h=>by
  have h1:=h k (by simp) n
  have h2:=many_types (f:=f) ks (one k n).2 (fun k' hk=>h k' (by simp [hk]))
  rw [show (dJ one (k :: ks) n).1=(one k n).1 :: (dJ one ks (one k n).2).1 from rfl,tyL,h1,h2]
  simp
theorem pick_type (r:RawD) (kind:Int) (h1:1≤kind) (h3:kind≤3):opTy (aX r kind).1 (aX r kind).2=(kind,0):=by
 have a0:=fX r.a 6 (by omega)
 have b0:=fX r.b 7 (by omega)
 have b1:=eX r.b 7 (by omega)
 have c0:=fX r.a 3 (by omega)
 have c1:=eX r.a 3 (by omega)
 unfold aX
 split
 ·simp [opTy,ruleT]
 ·split
  ·rename_i hk
   split
   ·simp [opTy,ruleT,hk]
   ·split
    ·simp [opTy,ruleT,hk]
    ·have hb:intOps (cJ r.b 7)=5∨intOps (cJ r.b 7)=6∨intOps (cJ r.b 7)=7∨intOps (cJ r.b 7)=8∨intOps (cJ r.b 7)=9:=by
      unfold intOps
      repeat' split
      all_goals omega
     simp only
     rcases hb with h | h | h | h | h <;> (rw [h]; simp [opTy,ruleT,hk])
  ·split
   ·rename_i hk
    split
    ·simp [opTy,ruleT,hk]
    ·split
     ·have hb:cJ r.b 7=1∨cJ r.b 7=2:=by omega
      simp only
      rcases hb with h | h <;> (rw [h]; simp [opTy,ruleT,hk])
     ·have hb:cJ r.b 7=3∨cJ r.b 7=4∨cJ r.b 7=5∨cJ r.b 7=6:=by omega
      simp only
      rcases hb with h | h | h | h <;> (rw [h]; simp [opTy,ruleT,hk])
   ·have hk:kind=3:=by omega
    simp [opTy,ruleT,hk]
theorem ty_op {f:ByteArray→Option Int} {op:Int} {l:List Ex} {ts:List Int} (h1:op≠1) (h2:op≠2) (h:tyL f l=(ts,0)):tyE f (opE op l)=opTy op ts:=by
 rw [tyE_eq,if_neg (show ¬ (opE op l).op=1 from h1),if_neg (show ¬ (opE op l).op=2 from h2)]
 show (if (tyL f l).2=0 then opTy op (tyL f l).1 else (0,(tyL f l).2))=_
 rw [h]; simp
theorem ty_gen {fs:List Fd} {g:ByteArray→Option Int} (hf:∀ f∈fs,g f.name=some f.ty) (l:List RawD):∀ (d:Nat) (kind:Int) (n:Nat),1≤kind→kind≤3→tyE g (gJ l fs d kind n).1=(kind,0)
 | 0,kind,n,h1,h3=>ty_leaf hf _ _
 | d + 1,kind,n,h1,h3=>by
  by_cases q:cJ (aJ l n).k 3=0
  ·rw [genE_leaf q]; exact ty_leaf hf _ _
  ·obtain ⟨p1,p2,p3,p4⟩:=pickE_ok (aJ l n) kind h1 h3
   have hpt:=pick_type (aJ l n) kind h1 h3
   obtain ⟨op,ks,hp⟩:∃ op ks,aX (aJ l n) kind=(op,ks):=⟨(aX (aJ l n) kind).1,(aX (aJ l n) kind).2,by cases aX (aJ l n) kind; rfl⟩
   rw [fV q hp]
   rw [hp] at p1 p2 p4 hpt
   simp only at p1 p2 p4 hpt
   exact (ty_op (by omega) (by omega) (many_types ks _ (fun k hk n=>ty_gen hf l d k n (p4 k hk).1 (p4 k hk).2))).trans hpt
end Go.Proofs.YtmoahpojchndiaaGreat
namespace Go.Proofs.YtmoahpojchndiaaGreat
open Go.RowKit Go.Shelf
attribute [local go_sem] Oper.semAt_some
def zF:Fd:=⟨⟨#[]⟩,0,0,zE⟩
@[reducible] def fdVal (f:Fd) (v:Value):Value:=.agg #[.string f.name,.int .i64 f.kind,.int .i64 f.ty,.int .i64 f.src.op,.int .i64 f.src.k,.int .i64 f.src.n,.string f.src.s,.string f.src.nm,v]
def dn (len c:Nat):List Nat:=(List.range c).map fun j=>len - 1 - j
theorem dn_succ (len c:Nat):dn len (c + 1)=dn len c++[len - 1 - c]:=by simp [dn,List.range_succ]
theorem dn_len (len c:Nat):(dn len c).length=c:=by simp [dn]
set_option maxHeartbeats 2000000 in
theorem back_in (A:Option Addr) (len cap:Nat) (n:Nat) (W:World) :
  CallsIn Fence.wide n Tryz.prog 209 #[.slice A len cap] W fun e W'=>e=.returned (.func (.func 217) #[] #[.pointer (some ⟨W.heap.size,0,none⟩)])∧W'=W.alloc (.cells #[.slice A len cap] 26):=by
 refine callsIn_of_wp Tryz.func209 rfl trivial ?_ rfl
 simp only [Tryz.ntmps209,List.size_toArray,List.length_cons,List.length_nil,Nat.reduceAdd,Nat.reduceSub,Array.replicate_succ,Array.replicate_zero,List.push_toArray,List.append_toArray,List.nil_append,List.cons_append]
 gi_wp2
 go_ret
 exact ⟨rfl,rfl⟩
set_option maxHeartbeats 4000000 in
theorem back_stops (fs:List Fd) (vs:List Value) (A:Option Addr) (cap:Nat) (h:Vw) (hr:RS h 9 (.slice A fs.length cap) (zK fs vs)) (hvl:vs.length=fs.length) (hsl:∀ v∈vs,.slice (sA v) (sN v) (sC v)=v) (n bX:Nat) (w:World) (hb:Below h.w.heap.size h.w w) (hX:w.heap[bX]?=some (.cells #[.slice A fs.length cap] 26 (0,0))) :
  SeqStopsK Fence.wide n Tryz.prog 217 #[.pointer (some ⟨bX,0,none⟩)] (fun i:Nat=>#[.int .i64 (i:Int),fdVal (fs.getD i zF) (.slice (sA (vs.getD i undef)) (sN (vs.getD i undef)) (sC (vs.getD i undef)))]) (Kp h.w.heap.size) (fun ys=>ys=dn fs.length fs.length) (fun _=>True) fs.length w:=fun l J Jx W hW hJ hJx hY h0=>by
 have hbW:Below h.w.heap.size h.w W:=hb.trans (hW.mono hb.size)
 have hX':W.heap[bX]?=some (.cells #[.slice A fs.length cap] 26 (0,0)):=(hW.block bX (Array.getElem?_eq_some_iff.1 hX).1).trans hX
 have bX':Boxed W bX 26 (.slice A fs.length cap):=hX'
 have cX:=bX'.cell
 obtain ⟨A',cap',e,hc1,hc2,-⟩:=hr.form
 rw [bQ hvl] at e hc1
 simp only [Value.slice.injEq] at e
 obtain ⟨rfl,-,rfl⟩:=e
 have HR:=Lib.hid hr
 have HV:=Lib.hid hvl
 have HS:=Lib.hid hsl
 have HB:=Lib.hid hbW
 have HY:=Lib.hid hY
 have HX:=Lib.hid bX'
 clear hr hvl hsl hbW hb hX hX' hW hY bX'
 unfold maxLen at hc2
 generalize hL:fs.length=len at *
 refine callsIn_of_wp Tryz.func217 rfl trivial ?_ rfl
 simp only [Tryz.ntmps217,List.size_toArray,List.length_cons,List.length_nil,Nat.reduceAdd,Nat.reduceSub,Array.replicate_succ,Array.replicate_zero,List.push_toArray,List.append_toArray,List.nil_append,List.cons_append]
 gi_wp2
 gi_loopw [3] (fun i wr=>∃ k:Nat,k≤len∧i=.int .i64 ((len:Int) - 1 - k)∧J (dn len k) wr∧Kp h.w.heap.size W wr) (fun i _=>(intOf i + 1).toNat)
 case atStart=>exact ⟨0,Nat.zero_le _,by go_num,by simpa [dn] using h0,Kp.refl _ _⟩
 case round =>
  obtain ⟨k,hk,rfl,hjk,hkk⟩:=hrel
  by_cases hlt:k < len
  ·obtain ⟨m,hm⟩:∃ m:Nat,len=m + 1 + k:=⟨len - 1 - k,by omega⟩
   have hi:(len:Int) - 1 - k=(m:Int):=by omega
   rw [hi]
   have hml:m < len:=by omega
   obtain ⟨f,hf⟩:∃ f,fs[m]?=some f:=⟨_,List.getElem?_eq_getElem (by omega)⟩
   obtain ⟨u,hu⟩:∃ u,vs[m]?=some u:=⟨_,List.getElem?_eq_getElem (by have:=HV.out; omega)⟩
   have hrow:=aQ hf hu
   have hrw:=HR.out
   obtain ⟨b,off,e,-,hc⟩:=hrw.row hrow
   subst e
   have hbr:=HB.out.trans hkk.below
   have hc:=hc.sees (sees_below hbr)
   have c0:wr.cell? ⟨b,off + m * 9,none⟩=_:=hc.lies 0 _ rfl
   have c1:wr.cell? ⟨b,off + m * 9 + 1,none⟩=_:=hc.lies 1 _ rfl
   have c2:wr.cell? ⟨b,off + m * 9 + 2,none⟩=_:=hc.lies 2 _ rfl
   have c3:wr.cell? ⟨b,off + m * 9 + 3,none⟩=_:=hc.lies 3 _ rfl
   have c4:wr.cell? ⟨b,off + m * 9 + 4,none⟩=_:=hc.lies 4 _ rfl
   have c5:wr.cell? ⟨b,off + m * 9 + 5,none⟩=_:=hc.lies 5 _ rfl
   have c6:wr.cell? ⟨b,off + m * 9 + 6,none⟩=_:=hc.lies 6 _ rfl
   have c7:wr.cell? ⟨b,off + m * 9 + 7,none⟩=_:=hc.lies 7 _ rfl
   have c8:wr.cell? ⟨b,off + m * 9 + 8,none⟩=_:=hc.lies 8 _ rfl
   have cX:=(hkk.cells.boxed HX.out).cell
   obtain ⟨fn,tmps,assign,body,hy,hRd⟩:=HY.out (dn len k) m wr hjk (by rw [dn_len]; omega)
   have hR2:=hRd.mono (R':=fun e W2=>(e=.returned (.bool true)∧J (dn len (k + 1)) W2∧Kp h.w.heap.size W W2)∨(e=.returned (.bool false)∧Jx (dn len (k + 1)) W2))
    (fun e W2 q=>by
     rw [dn_succ,show len - 1 - k=m by omega]
     exact q.elim (fun ⟨a,b,c⟩=>.inl ⟨a,b,hkk.trans c⟩) .inr)
   have e1:fs.getD m zF=f:=by rw [List.getD_eq_getElem?_getD,hf]; rfl
   have e2:vs.getD m undef=u:=by rw [List.getD_eq_getElem?_getD,hu]; rfl
   have e3:=HS.out u (List.mem_of_getElem? hu)
   rw [e1,e2,e3] at hy
   have HJ:=Lib.hid hjk
   have HK:=Lib.hid hkk
   have HM:=Lib.hid hm
   clear hc hrow hrw hRd hjk hkk hf hu e1 e2 e3 hbr hi hm
   gi_wp2_with ((try refine ⟨bZ _,?_⟩); refine hR2.mono ?_; clear hR2; rintro e W2 (⟨rfl,hJ2,hk2⟩ | ⟨rfl,hx2⟩))
   ·go_roundw
    case rel=>exact ⟨k + 1,by omega,by have:=HM.out; go_num,hJ2,hk2⟩
    case measure=>simp [intOf] <;> omega
   ·(try simp only [Exit.inBlock,Exit.then]); refine bodyPost_ret (results_none rfl _ _ _) rfl ?_
    exact ⟨⟨_,rfl⟩,.inr ⟨_,trivial,hx2⟩⟩
  ·obtain rfl:k=len:=by omega
   have hi:(k:Int) - 1 - k = -1:=by omega
   rw [hi]
   clear hi
   gi_wp2
   go_end0
   exact ⟨⟨_,rfl⟩,.inl ⟨_,rfl,hjk⟩⟩
def lastT (fs:List Fd) (s:ByteArray) (pre:List Nat):Option Value:=pre.foldl (fun o i=>if s=(fs.getD i zF).name then some (.int .i64 (fs.getD i zF).ty) else o) none
theorem lastT_snoc (fs:List Fd) (s:ByteArray) (pre:List Nat) (i:Nat):lastT fs s (pre++[i])=if s=(fs.getD i zF).name then some (.int .i64 (fs.getD i zF).ty) else lastT fs s pre:=by
 unfold lastT
 rw [List.foldl_append]; rfl
theorem lastT_dn (fs:List Fd) (s:ByteArray):∀ c,c≤fs.length→lastT fs s (dn fs.length c)=(tyF (fs.drop (fs.length - c)) s).map (.int .i64)
 | 0,_=>by rw [Nat.sub_zero,List.drop_length]; rfl
 | c + 1,hc=>by
  rw [dn_succ,lastT_snoc,lastT_dn fs s c (by omega)]
  obtain ⟨f,hf⟩:∃ f,fs[fs.length - 1 - c]?=some f:=⟨_,List.getElem?_eq_getElem (by omega)⟩
  have e1:fs.getD (fs.length - 1 - c) zF=f:=by rw [List.getD_eq_getElem?_getD,hf]; rfl
  have e2:fs.drop (fs.length - (c + 1))=f :: fs.drop (fs.length - c):=by
   obtain ⟨hlt,he⟩:=List.getElem?_eq_some_iff.1 hf
   rw [show fs.length - (c + 1)=fs.length - 1 - c by omega,List.drop_eq_getElem_cons hlt,he,show fs.length - 1 - c + 1=fs.length - c by omega]
  rw [e1,e2]
  conv=>rhs; unfold tyF
  by_cases e:s=f.name
  ·rw [if_pos e,if_pos ((Go.MapKept.bytes_beq s f.name).2 e)]; rfl
  ·rw [if_neg e,if_neg (fun q=>e ((Go.MapKept.bytes_beq s f.name).1 q))]
set_option maxHeartbeats 4000000 in
theorem types_in (fs:List Fd) (vs:List Value) (A:Option Addr) (cap:Nat) (h:Vw) (hr:RS h 9 (.slice A fs.length cap) (zK fs vs)) (hvl:vs.length=fs.length) (hsl:∀ v∈vs,.slice (sA v) (sN v) (sC v)=v) (n:Nat) (hn:3≤n) :
  CallsIn Fence.wide n Tryz.prog 176 #[.slice A fs.length cap] h.w (fun e W'=>e=.returned (.map (some h.w.heap.size))∧(∃ l,W'.heap[h.w.heap.size]?=some (wV (oY l))∧∀ s,sget s l=(tyF fs s).map (.int .i64))∧Below h.w.heap.size h.w W'):=by
 have h1:1≤n:=by omega
 obtain ⟨M,hM⟩:∃ M,M=h.w.heap.size:=⟨_,rfl⟩
 obtain ⟨W1,hW1⟩:∃ W1,W1=h.w.alloc (.map #[] 0):=⟨_,rfl⟩
 obtain ⟨W2,hW2⟩:∃ W2,W2=W1.alloc (.cells #[.map (some M)] 249):=⟨_,rfl⟩
 obtain ⟨W3,hW3⟩:∃ W3,W3=W2.alloc (.cells #[.slice A fs.length cap] 26):=⟨_,rfl⟩
 have z1:W1.heap.size=M + 1:=by rw [hW1,hM]; simp
 have z2:W2.heap.size=M + 1 + 1:=by rw [hW2,World.size_alloc,z1]
 have z3:W3.heap.size=M + 1 + 1 + 1:=by rw [hW3,World.size_alloc,z2]
 have m1:W1.heap[M]?=some (wV (oY [])):=by rw [hW1,hM]; exact (Go.MapKept.heap_alloc _ _).1
 have m2:W2.heap[M]?=some (wV (oY [])):=by rw [hW2]; exact ((Go.MapKept.heap_alloc _ _).2 _ (by omega)).trans m1
 have m3:W3.heap[M]?=some (wV (oY [])):=by rw [hW3]; exact ((Go.MapKept.heap_alloc _ _).2 _ (by omega)).trans m2
 have b2:Boxed W2 (M + 1) 249 (.map (some M)):=by rw [hW2,← z1]; exact Boxed.new _ _ _
 have b3:Boxed W3 (M + 1) 249 (.map (some M)):=by rw [hW3]; exact b2.alloc _
 have x3:W3.heap[M + 1 + 1]?=some (.cells #[.slice A fs.length cap] 26 (0,0)):=by rw [hW3,← z2]; exact World.alloc_heap_new _ _
 have hB3:Below M h.w W3:=by
  rw [hW3,hW2,hW1,hM]
  exact (((Below.refl _ h.w).alloc (Nat.le_refl _) _).alloc (by simp) _).alloc (by simp; omega) _
 refine callsIn_of_wp_marks Tryz.func176 rfl trivial ?_ rfl
 simp only [Tryz.ntmps176,List.size_toArray,List.length_cons,List.length_nil,Nat.reduceAdd,Nat.reduceSub,Array.replicate_succ,Array.replicate_zero,List.push_toArray,List.append_toArray,List.nil_append,List.cons_append]
 have HR:=Lib.hid hr
 have HV:=Lib.hid hvl
 have HS:=Lib.hid hsl
 have HX:=Lib.hid x3
 have HM3:=Lib.hid m3
 have HB:=Lib.hid hB3
 have HB3:=Lib.hid b3
 have HZ:=Lib.hid z3
 clear hr hvl hsl x3 m1 m2 m3 b2 b3 hB3 z1 z2 z3
 rw [← hM]
 gi_wp2
 simp only [run_makeMap,Result.andThen,← hM,← hW1]
 gi_wp2_with ((try refine ⟨trivial,?_⟩); (try refine ⟨bZ _,?_⟩); gi_at_call 209; refine (back_in A fs.length cap (n - 1) _).mono ?_; rintro e w' ⟨rfl,rfl⟩)
 rw [← hM,← hW1,← hW2,← hW3]
 clear hW1 hW2 hW3 W1 W2
 subst hM
 have hsz:=HZ.out
 clear HZ
 refine wpIn_rangeFunc_ownH (α:=Nat) rfl h1 (gf:=217) (lb:=#[.pointer (some ⟨h.w.heap.size + 1 + 1,0,none⟩)]) rfl trivial (enters_of Tryz.func217 (by kernel_rfl) rfl)
  (back_stops fs vs A cap h HR.out HV.out HS.out (n - 1) (h.w.heap.size + 1 + 1) W3 HB.out HX.out) kp_t (kp_b HB.out.size) (Below.refl _ _) (fun _=>rfl)
  (fun pre W=>((∃ l,W.heap[h.w.heap.size]?=some (wV (oY l))∧∀ s,sget s l=lastT fs s pre)∧Boxed W (h.w.heap.size + 1) 249 (.map (some h.w.heap.size)))∧Below h.w.heap.size h.w W)
  (fun _ _ W=>False∧Below h.w.heap.size h.w W)
  (OwnFrom.and (fun s A B row hs hg hr=>⟨by
    obtain ⟨l,h2,h3⟩:=hs.1
    exact ⟨l,(hg.block _ (Array.getElem?_eq_some_iff.1 h2).1 (fun e=>by have:=(hr _ e.symm).1; omega)).trans h2,h3⟩,hs.2.kept hg (cells_own hs.2 rfl (fun r e=>(hr r e).2))⟩) (ownFrom_below (Nat.le_refl _) (by omega)))
  (fun c=>OwnFrom.and (fun s A B row hs hg hr=>hs) (ownFrom_below (Nat.le_refl _) (by omega)))
  ⟨⟨⟨[],HM3.out,fun _=>rfl⟩,HB3.out⟩,HB.out⟩
  (fun i a' W=>∃ b,W.heap[b]?=some (.cells (fdRow (fs.getD i zF) (.slice (sA (vs.getD i undef)) (sN (vs.getD i undef)) (sC (vs.getD i undef)))).toArray 56 (0,0))∧a'={ tmps:=#[Value.slice A fs.length cap,undef,Value.map none,.pointer (some ⟨h.w.heap.size + 1,0,none⟩),undef,.pointer (some ⟨b,0,none⟩),.map (some h.w.heap.size),.slice A fs.length cap,.func (.func 217) #[] #[.pointer (some ⟨h.w.heap.size + 1 + 1,0,none⟩)],.int .i64 (i:Int),fdVal (fs.getD i zF) (.slice (sA (vs.getD i undef)) (sN (vs.getD i undef)) (sC (vs.getD i undef))),undef,undef,undef,undef,undef,undef],defers:=[] })
  (fun i a' s A B row hs hg hr=>by
   obtain ⟨b,h2,h3⟩:=hs
   refine ⟨b,(hg.block _ (Array.getElem?_eq_some_iff.1 h2).1 (fun e=>?_)).trans h2,h3⟩
   obtain ⟨-,o,ho,hc⟩:=hr _ e.symm
   rw [h2] at ho; cases ho; cases hc) ?assign ?body ?done ?stop
 case assign =>
  intro l pre i W K hI hK
  have hk0:=Kp.alloc hI.2.size (.cells (fdRow (fs.getD i zF) (.slice (sA (vs.getD i undef)) (sN (vs.getD i undef)) (sC (vs.getD i undef)))).toArray 56)
  have hb0:=hI.2.trans hk0.below
  have hI2:=(hI.1.2.alloc (.cells (fdRow (fs.getD i zF) (.slice (sA (vs.getD i undef)) (sN (vs.getD i undef)) (sC (vs.getD i undef)))).toArray 56))
  have hm2:(W.alloc (.cells (fdRow (fs.getD i zF) (.slice (sA (vs.getD i undef)) (sN (vs.getD i undef)) (sC (vs.getD i undef)))).toArray 56)).heap[h.w.heap.size]?=W.heap[h.w.heap.size]?:=(Go.MapKept.heap_alloc W _).2 _ (by
   obtain ⟨l,h2,-⟩:=hI.1.1
   exact (Array.getElem?_eq_some_iff.1 h2).1)
  have hx2:=World.alloc_heap_new W (.cells (fdRow (fs.getD i zF) (.slice (sA (vs.getD i undef)) (sN (vs.getD i undef)) (sC (vs.getD i undef)))).toArray 56)
  have HK:=hK _ _ ((KeepsOthers.alloc W (.cells (fdRow (fs.getD i zF) (.slice (sA (vs.getD i undef)) (sN (vs.getD i undef)) (sC (vs.getD i undef)))).toArray 56)).from _) hk0 ⟨⟨by rw [hm2]; exact hI.1.1,hI2⟩,hb0⟩ ⟨_,hx2,rfl⟩
  clear hK hI hk0 hb0 hI2 hm2 hx2
  generalize fs.getD i zF=f at *
  generalize vs.getD i undef=u at *
  gi_wp2
  exact HK
 case body =>
  rintro l pre i a' W hl - ⟨⟨⟨lm,hm,hg⟩,hbx⟩,hB⟩ ⟨b,hb,rfl⟩ hpl
  obtain ⟨l2,hu,hg2,-,-⟩:=run_update_str (P:=Tryz.prog) (t:=249) (s:=(fs.getD i zF).name) (v:=.int .i64 (fs.getD i zF).ty) hm Tryz.underlying249 Tryz.underlying9
  have cM:=hbx.cell
  have c0:W.cell? ⟨b,0,none⟩=some (.string (fs.getD i zF).name):=by simp [World.cell?,hb]
  have c2:W.cell? ⟨b,2,none⟩=some (.int .i64 (fs.getD i zF).ty):=by simp [World.cell?,hb]
  have hgr:=grown_set (wV (oY l2)) hm
  have hset:=(Go.MapKept.heap_set (o':=wV (oY l2)) hm).1
  have hml:=(Array.getElem?_eq_some_iff.1 hm).1
  have hbl:Below h.w.heap.size W _:=(Below.refl h.w.heap.size W).grown hgr hB.size (fun k e=>by cases e; exact Nat.le_refl _)
  have hkc:=KeepsCells.grown hgr (fun r e=>by cases e; exact ⟨_,hm,rfl⟩)
  have hfin:∀ s,sget s l2=lastT fs s (pre++[i]):=fun s=>by rw [hg2 s,lastT_snoc,hg s]
  have hex:∃ l,({ W with heap:=W.heap.setIfInBounds h.w.heap.size (wV (oY l2)) }:World).heap[h.w.heap.size]?=some (wV (oY l))∧∀ s,sget s l=lastT fs s (pre++[i]):=⟨l2,hset,hfin⟩
  have HF:=Lib.hid (And.intro (KeepsFrom.of_grownBy (B:=W3.heap.size) hgr (fun j e=>by cases e; omega)) (And.intro (Kp.mk hbl hkc) (And.intro (And.intro hex (hkc.boxed hbx)) (hB.trans hbl))))
  clear hex hgr hset hml hbl hkc hfin hg hg2 hB hm hb hbx
  generalize fs.getD i zF=f at *
  generalize vs.getD i undef=u at *
  gi_wp2_with (first | (gi_at_mapUpdate; refine wpListIn_mapUpdate_at rfl _ _ _ 249 rfl rfl rfl rfl hu ?_) | gi_in)
  have hfo:=HF.out
  rw [hsz] at hfo
  exact ⟨hfo.1,hfo.2.1,hfo.2.2⟩
 case done =>
  rintro D ys W hD rfl ⟨⟨⟨l,hm,hg⟩,hbx⟩,hB⟩ hK
  have cM:=hbx.cell
  have hfin:∀ s,sget s l=(tyF fs s).map (.int .i64):=fun s=>by rw [hg s,lastT_dn fs s _ (Nat.le_refl _),Nat.sub_self,List.drop_zero]
  have HF:=Lib.hid (And.intro hm (And.intro hfin hB))
  clear hg hfin hB hbx hm
  gi_wp2
  refine ⟨by simp,.inl ⟨_,_,rfl,run_takeDeferred hK,?_⟩⟩
  obtain ⟨f1,f2,f3⟩:=HF.out
  have hml:=(Array.getElem?_eq_some_iff.1 f1).1
  have hp:(W.putObj D (.deferred none)).heap[h.w.heap.size]?=some (wV (oY l)):=(World.putObj_heap_other (by omega)).trans f1
  refine ⟨.map (some h.w.heap.size),?_,rfl,⟨l,hp,f2⟩,f3.trans (belowK_b (w:=h.w) (Nat.le_refl _) _ D _ _ (by omega) hK rfl rfl)⟩
  simp [results,Tryz.f176,go_sem]
 case stop =>
  rintro D c pre W hD - ⟨hf,-⟩
  exact hf.elim
end Go.Proofs.YtmoahpojchndiaaGreat
namespace Go.Proofs.YtmoahpojchndiaaGreat
open Go.RowKit Go.Shelf
def TypesAt (h:Vw) (b:Nat) (f:ByteArray→Option Int):Prop:=∃ l,MapAt h b (oY l)∧∀ s,sget s l=(f s).map (.int .i64)
theorem TypesAt.sees {h h':Vw} {b:Nat} {f:ByteArray→Option Int} (k:TypesAt h b f) (s:Sees h h'):TypesAt h' b f:=by
 obtain ⟨l,h1,h2⟩:=k
 exact ⟨l,h1.sees s,h2⟩
theorem types_any (fs:List Fd) (v:Value) (h:Vw) (hf:IsFds h v fs):C0 Tryz.prog 176 #[v] h (fun r h'=>∃ b,r=.map (some b)∧TypesAt h' b (tyF fs)):=by
 intro _ _ _ hbad
 obtain ⟨vs,hr,hs⟩:=hf
 have hvl:=hs.len
 obtain ⟨A,cap,rfl,-,-,-⟩:=hr.form
 rw [bQ hvl] at hr ⊢
 have hsl:∀ v∈vs,.slice (sA v) (sN v) (sC v)=v:=fun v hv=>by
  obtain ⟨i,hi⟩:=List.getElem?_of_mem hv
  have hlt:=(List.getElem?_eq_some_iff.1 hi).1
  obtain ⟨x,hx⟩:∃ x,(fs.map (·.src))[i]?=some x:=⟨_,List.getElem?_eq_getElem (by rw [List.length_map]; omega)⟩
  obtain ⟨A,n,c,rfl⟩:=(AllArgs.get hs hx hi).slice
  rfl
 refine (callsIn_wide.1 (types_in fs vs A cap h hr hvl hsl 9 (by omega))).mono ?_
 rintro e w' ⟨rfl,⟨l,h1,h2⟩,hb⟩
 exact ⟨_,[],rfl,Low.of_below hb,(fun x hx=>by cases hx),rfl,_,rfl,l,⟨fun hm=>Nat.lt_irrefl _ (hbad _ hm),h1⟩,h2⟩
def RulesAt (h:Vw) (b:Nat):Prop:=∃ es,MapAt h b (lV es)∧∀ op,match ruleT op with
 | some (a,t)=>∃ A n c,iget op es=some (.agg #[.slice A n c,.int .i64 t])∧RS h 1 (.slice A n c) (mV a)
 | none=>iget op es=none
theorem RulesAt.sees {h h':Vw} {b:Nat} (k:RulesAt h b) (s:Sees h h'):RulesAt h' b:=by
 obtain ⟨es,h1,h2⟩:=k
 refine ⟨es,h1.sees s,fun op=>?_⟩
 have:=h2 op
 split at this
 ·obtain ⟨A,n,c,h3,h4⟩:=this
  exact ⟨A,n,c,h3,h4.sees s⟩
 ·exact this
def rulesL (A B C:Value × Value):List (Int × Value) :=
 [(3,.agg #[A.2,.int .i64 1]),(4,.agg #[B.2,.int .i64 2]),(18,.agg #[C.2,.int .i64 1]),(5,.agg #[A.1,.int .i64 1]),(6,.agg #[A.1,.int .i64 1]),(7,.agg #[A.1,.int .i64 1]),(8,.agg #[A.1,.int .i64 1]),(9,.agg #[A.1,.int .i64 1]),
  (10,.agg #[C.1,.int .i64 3]),(15,.agg #[B.1,.int .i64 2]),(16,.agg #[B.1,.int .i64 2])]
theorem rules_get {es:List (Int × Value)} {A B C:Value × Value} (hn:(es.map (·.1)).Nodup) (he:∀ k v,(k,v)∈es↔(k,v)∈rulesL A B C) (op:Int):iget op es=iget op (rulesL A B C):=by
 have hnl:((rulesL A B C).map (·.1)).Nodup:=by simp [rulesL]
 cases h:iget op (rulesL A B C) with
 | some v =>
  have hm:∀ {l:List (Int × Value)},iget op l=some v→(op,v)∈l:=by
   intro l
   induction l with
   | nil=>intro h; cases h
   | cons p l ih =>
    obtain ⟨k,u⟩:=p
    intro h
    unfold iget at h
    split at h
    ·rename_i e; simp only [Option.some.injEq] at h; subst e h; simp
    ·exact List.mem_cons_of_mem _ (ih h)
  exact iget_mem hn ((he op v).2 (hm h))
 | none =>
  refine iget_none fun hm=>?_
  obtain ⟨⟨k,v⟩,hm2,rfl⟩:=List.mem_map.1 hm
  rw [iget_mem hnl ((he k v).1 hm2)] at h
  cases h
theorem rules_any (h:Vw):C0 Tryz.prog 177 #[] h (fun r h'=>∃ b,r=.map (some b)∧RulesAt h' b):=by
 refine oQ Tryz.func177 (c:=Tryz.f177.body.getD .skip) (N:=34) ?_
 intro hbx hbad Q hQ
 refine gov3 16 [.fix,.fix,.fix] [] ?_
 intro b1 b2 b3 W4 S5
 refine uQ [(1,Vs b1 2 2),(2,Vs b2 2 2),(3,Vs b3 2 2)] [] [(b3,0,[Vi 3,Vi 3]),(b2,0,[Vi 2,Vi 2]),(b1,0,[Vi 1,Vi 1])] ?_
 refine g_maplit 251 [.mk 7,.pu 8 (Vs b1 2 2),.pu 9 (Vs b1 1 2),.pu 10 (.agg #[Vs b1 1 2,Vi 1]),.ins 3 (.agg #[Vs b1 1 2,Vi 1]),.pu 11 (Vs b2 2 2),.pu 12 (Vs b2 1 2),.pu 13 (.agg #[Vs b2 1 2,Vi 2]),.ins 4 (.agg #[Vs b2 1 2,Vi 2]),.pu 14 (Vs b3 2 2),.pu 15 (Vs b3 1 2),.pu 16 (.agg #[Vs b3 1 2,Vi 1]),.ins 18 (.agg #[Vs b3 1 2,Vi 1]),.pu 17 (Vs b1 2 2),.pu 18 (.agg #[Vs b1 2 2,Vi 1]),.ins 5 (.agg #[Vs b1 2 2,Vi 1]),.pu 19 (Vs b1 2 2),.pu 20 (.agg #[Vs b1 2 2,Vi 1]),.ins 6 (.agg #[Vs b1 2 2,Vi 1]),.pu 21 (Vs b1 2 2),.pu 22 (.agg #[Vs b1 2 2,Vi 1]),.ins 7 (.agg #[Vs b1 2 2,Vi 1]),.pu 23 (Vs b1 2 2),.pu 24 (.agg #[Vs b1 2 2,Vi 1]),.ins 8 (.agg #[Vs b1 2 2,Vi 1]),.pu 25 (Vs b1 2 2),.pu 26 (.agg #[Vs b1 2 2,Vi 1]),.ins 9 (.agg #[Vs b1 2 2,Vi 1]),.pu 27 (Vs b3 2 2),.pu 28 (.agg #[Vs b3 2 2,Vi 3]),.ins 10 (.agg #[Vs b3 2 2,Vi 3]),.pu 29 (Vs b2 2 2),.pu 30 (.agg #[Vs b2 2 2,Vi 2]),.ins 15 (.agg #[Vs b2 2 2,Vi 2]),.pu 31 (Vs b2 2 2),.pu 32 (.agg #[Vs b2 2 2,Vi 2]),.ins 16 (.agg #[Vs b2 2 2,Vi 2]),.mv 33,.mv 0] ?_ Tryz.underlying251 Tryz.underlying3; intro b6 es7 hes8 hnd9
 refine go0 2 [] [] ?_
 refine hQ.toJ [.map (some b6)] [] (fun a w hJ=>?_)
 skip
 have c1:Cells ⟨w,h.bad⟩ b1 0 [.int .i64 1,.int .i64 1]:=(hJ.f (_,_,_) (List.mem_of_getElem? (i:=2) (by kernel_rfl))).sees hJ.j.out
 have c2:Cells ⟨w,h.bad⟩ b2 0 [.int .i64 2,.int .i64 2]:=(hJ.f (_,_,_) (List.mem_of_getElem? (i:=1) (by kernel_rfl))).sees hJ.j.out
 have c3:Cells ⟨w,h.bad⟩ b3 0 [.int .i64 3,.int .i64 3]:=(hJ.f (_,_,_) (List.mem_of_getElem? (i:=0) (by kernel_rfl))).sees hJ.j.out
 have n2:=vX [1,1] (by decide) c1
 have t2:=vX [2,2] (by decide) c2
 have s2:=vX [3,3] (by decide) c3
 have n1:=n2.take 1 (by decide)
 have t1:=t2.take 1 (by decide)
 have s1:=s2.take 1 (by decide)
 refine ⟨b6,rfl,es7,hJ.mapOut 0 (by kernel_rfl) rfl,fun op=>?_⟩
 rw [rules_get (A:=(.slice (some ⟨b1,0,none⟩) 2 2,.slice (some ⟨b1,0,none⟩) 1 2)) (B:=(.slice (some ⟨b2,0,none⟩) 2 2,.slice (some ⟨b2,0,none⟩) 1 2)) (C:=(.slice (some ⟨b3,0,none⟩) 2 2,.slice (some ⟨b3,0,none⟩) 1 2)) hnd9 (fun k v=>by
  rw [hes8]
  simp [rulesL])]
 clear hJ hes8 hnd9
 unfold ruleT
 by_cases e3:op=3
 ·subst e3; exact ⟨_,_,_,rfl,n1⟩
 by_cases e4:op=4
 ·subst e4; exact ⟨_,_,_,rfl,t1⟩
 by_cases e18:op=18
 ·subst e18; exact ⟨_,_,_,rfl,s1⟩
 by_cases e5:5≤op∧op≤9
 ·rcases (by omega:op=5∨op=6∨op=7∨op=8∨op=9) with rfl | rfl | rfl | rfl | rfl <;> exact ⟨_,_,_,rfl,n2⟩
 by_cases e10:op=10
 ·subst e10; exact ⟨_,_,_,rfl,s2⟩
 by_cases e15:op=15
 ·subst e15; exact ⟨_,_,_,rfl,t2⟩
 by_cases e16:op=16
 ·subst e16; exact ⟨_,_,_,rfl,t2⟩
 rw [if_neg e3,if_neg e4,if_neg e18,if_neg e5,if_neg e10,if_neg (by omega)]
 simp only
 unfold rulesL iget
 simp only [iget]
 rw [if_neg e3,if_neg e4,if_neg e18,if_neg (by omega),if_neg (by omega),if_neg (by omega),if_neg (by omega),if_neg (by omega),if_neg e10,if_neg e15,if_neg e16]
theorem equal_any (l m:List Int) (sl sl':Value) (h:Vw) (hr:RS h 1 sl (mV l)) (hr':RS h 1 sl' (mV m)):C0 Tryz.prog 41 #[sl,sl'] h (fun r _=>r=.bool (decide (l=m))):=by
 obtain ⟨A,ca,rfl,l1,l2,-⟩:=hr.form
 obtain ⟨A',ca',rfl,-,-,-⟩:=hr'.form
 rw [List.length_map] at hr hr' l1 ⊢
 unfold maxLen at l2
 rw [List.length_map]
 by_cases hlm:l.length=m.length
 rotate_left
 ·rw [decide_eq_false (fun e=>hlm (by rw [e]))]
  generalize hL:l.length=len at *
  generalize hL':m.length=len' at *
  refine oQ Tryz.func41 (c:=Tryz.f41.body.getD .skip) (N:=26) ?_
  intro hbx hbad Q hQ
  refine go0 15 [] [] ?_
  refine eV (t:=(len:Int) != (len':Int)) (bne_iff_ne.2 (by omega)) ?_
  refine go0 7 [] [] ?_
  refine hQ.to [.bool false] (fun H sH=>?_)
  exact rfl
 ·rw [← hlm] at hr' ⊢
  have hml:m.length=l.length:=hlm.symm
  clear hlm
  generalize hL:l.length=len at *
  refine oQ Tryz.func41 (c:=Tryz.f41.body.getD .skip) (N:=26) ?_
  intro hbx hbad Q hQ
  refine go0 27 [] [(10,.bool ((len:Int) != (len:Int)),.bool false)] ?_ (hc:=(And.intro (congrArg Value.bool (bne_self_eq_false _)) (trivial)))
  refine wQ [0,1,0,1,1] [.block 0,.seq [1,1,1]] (fun (k:Nat) X=>∃ (W1:Vw) ,X W1 [(0,.slice A len ca),(1,.slice A' len ca'),(12,Vi (len:Int)),(13,Vi (k:Int))] [] []∧Sees h W1∧(k≤len)∧(l.take k=m.take k)) (fun k=>len - k) (0) (fun X q=>⟨h,q _ _ _ _ ⟨rfl,by kernel_rfl⟩,Sees.refl _,Nat.zero_le _,rfl⟩) ?_
  rintro k a w ⟨W1,hJ,S2,hk,hpre⟩; refine aV hJ ?_; clear hJ a w
  refine go0 6 [] [] ?_
  rcases (by omega:k < len∨len=k) with hlt | hke
  ·obtain ⟨x,hx⟩:∃ x,l[k]?=some x:=⟨_,List.getElem?_eq_getElem (by omega)⟩
   obtain ⟨y,hy⟩:∃ y,m[k]?=some y:=⟨_,List.getElem?_eq_getElem (by omega)⟩
   have hrow:(mV l)[k]?=some [.int .i64 x]:=by rw [List.getElem?_map,hx]; rfl
   have hrow':(mV m)[k]?=some [.int .i64 y]:=by rw [List.getElem?_map,hy]; rfl
   refine eV (t:=decide ((k:Int) < (len:Int))) (decide_eq_true (by omega)) ?_
   refine go0 11 [] [] ?_
   obtain ⟨b3,o4,rfl,-,c5⟩:=RS.row hr (hrow)
   refine pQ (c5.sees S2) ?_
   obtain ⟨b6,o7,rfl,-,c8⟩:=RS.row hr' (hrow')
   refine pQ (c8.sees S2) ?_
   refine cV 9 0 [.pu,.pu,.v (fun gh=>.pointer (some ⟨b3,o4 + k * 1,none⟩)),.lf 1 0,.pu,.pu,.v (fun gh=>.pointer (some ⟨b6,o7 + k * 1,none⟩)),.lf 0 0,.pu] [] (trivial) ?_ ?_
   ·intro R hT hA hmono
    refine And.intro (rY hT hA b3 o4 len ca k (fun gh=>.pointer (some ⟨b3,o4 + k * 1,none⟩)) (by first | omega | (simp; omega))) ?_
    refine And.intro (rY hT hA b6 o7 len ca' k (fun gh=>.pointer (some ⟨b6,o7 + k * 1,none⟩)) (by first | omega | (simp; omega))) ?_
    trivial
   rintro W9 S10 -
   refine go0 1 [] [] ?_
   by_cases e:x=y
   ·refine qQ (t:=x != y) (bne_eq_false_iff_eq.2 e) ?_
    refine go0 7 [] [(25,Vi (IntKind.i64.wrap ((k:Int) + 1)),Vi ((k:Int) + 1))] ?_ (hc:=(And.intro (jJ (by omega) (by omega)) (trivial)))
    exact dV (k + 1) (fun X q=>⟨W9,q _ _ _ _ ⟨rfl,by kernel_rfl⟩,(S2.trans S10),by omega,by rw [sY _ k _ hx,sY _ k _ hy,hpre,e]⟩) (by omega)
   ·skip
    refine eV (t:=x != y) (bne_iff_ne.2 e) ?_
    refine go0 8 [] [] ?_
    refine vQ ?_
    refine go0 2 [] [] ?_
    have hne:¬ l=m:=fun q=>e (by rw [q,hy] at hx; exact (Option.some.inj hx).symm)
    refine hQ.to [.bool false] (fun H sH=>?_)
    exact congrArg Value.bool (decide_eq_false hne).symm
  ·skip
   refine qQ (t:=decide ((k:Int) < (len:Int))) (decide_eq_false (by omega)) ?_
   refine go0 2 [] [] ?_
   refine vQ ?_
   refine go0 8 [] [] ?_
   have heq:l=m:=by
    have h1:l.take k=l:=List.take_of_length_le (by omega)
    have h2:m.take k=m:=List.take_of_length_le (by omega)
    rw [← h1,← h2,hpre]
   refine hQ.to [.bool true] (fun H sH=>?_)
   exact congrArg Value.bool (decide_eq_true heq).symm
def tysE (f:ByteArray→Option Int) (l:List Ex):List Int:=l.map fun y=>(tyE f y).1
theorem tyL_all {f:ByteArray→Option Int}:∀ {l:List Ex},(∀ y∈l,(tyE f y).2=0)→tyL f l=(tysE f l,0)
 | [],_=>by rw [tyL]; rfl
 | x :: l,h=>by
  have h1:=h x (by simp)
  have h2:=tyL_all (f:=f) (l:=l) (fun y hy=>h y (by simp [hy]))
  rw [tyL,h2,if_pos h1]; simp [tysE]
theorem tyL_err {f:ByteArray→Option Int}:∀ {l:List Ex} {k:Nat} {y:Ex},l[k]?=some y→(∀ z∈l.take k,(tyE f z).2=0)→(tyE f y).2≠0→(tyL f l).2=(tyE f y).2
 | [],k,y,h,_,_=>by simp at h
 | x :: l,0,y,h,_,he=>by
  simp only [List.getElem?_cons_zero,Option.some.injEq] at h
  subst h
  rw [tyL,if_neg he]
 | x :: l,k + 1,y,h,hp,he=>by
  simp only [List.getElem?_cons_succ] at h
  have h1:=hp x (by simp)
  have h2:=tyL_err (f:=f) h (fun z hz=>hp z (by simp [hz])) he
  rw [tyL,if_pos h1,if_neg (by rw [h2]; exact he)]
  exact h2
theorem ret2 {p:Int × Int} {a b:Int} (h:p=(a,b)):Value.tuple #[.int .i64 a,.int .i64 b]=.tuple #[.int .i64 p.1,.int .i64 p.2]:=by rw [h]
theorem rule_none {op:Int} (h1:3≤op) (h2:op≤18) (h:ruleT op=none):op=17∨(op≠17∧11≤op∧op≤14):=by
 unfold ruleT at h
 repeat' split at h
 all_goals first | (cases h; done) | omega
theorem arity_le (op:Int):arity op≤3:=by
 unfold arity
 repeat' split
 all_goals omega
theorem tyof_any (f:ByteArray→Option Int) (fb rb:Nat):∀ (m:Nat) (x:Ex) (sl:Value) (h:Vw),(szE x).1≤m→IsArgs h x sl→WfE x→TypesAt h fb f→RulesAt h rb →
  C0 Tryz.prog 175 #[.agg #[.int .i64 x.op,.int .i64 x.k,.int .i64 x.n,.string x.s,.string x.nm,sl],.map (some fb),.map (some rb)] h (fun r _=>r=.tuple #[.int .i64 (tyE f x).1,.int .i64 (tyE f x).2])
 | 0,x,sl,h,hm,_,_,_,_=>by have:=szE_pos x; omega
 | m + 1,x,sl,h,hm,hx,hw,hF,hR=>by
  have IH:=tyof_any f fb rb m
  have hse:=qY x
  rw [hse] at hm
  simp only at hm
  have hwl:=hw.list
  have hev:=tyE_eq f x
  rcases hw.top with ⟨h1,-⟩ | ⟨h1,-⟩ | ⟨h1,ho2,-,-,-,-,h7⟩
  ·obtain ⟨A,len,c,rfl⟩:=hx.slice
   rw [if_pos h1] at hev
   rw [hev,h1]
   refine oQ Tryz.func175 (c:=Tryz.f175.body.getD .skip) (N:=112) ?_
   intro hbx hbad Q hQ
   refine go1 34 [.own,.b 0 0,.b 0 1] [] ?_
   intro b1
   refine hQ.to [Vi x.k,Vi 0] (fun H sH=>?_)
   exact rfl
  ·obtain ⟨A,len,c,rfl⟩:=hx.slice
   rw [if_neg (by omega),if_pos h1] at hev
   obtain ⟨ls,hmp,hgt⟩:=hF
   have hgt:=hgt x.nm
   rw [h1]
   cases hg:f x.nm with
   | none =>
    rw [hg] at hev hgt
    rw [hev]
    have hl:=mfind_none hgt
    refine oQ Tryz.func175 (c:=Tryz.f175.body.getD .skip) (N:=112) ?_
    intro hbx hbad Q hQ
    refine go1 34 [.own,.b 0 0,.b 0 4] [] ?_
    intro b1
    refine xQ fb (es:=oY ls) (td:=.string) (key:=.string x.nm) (r:=none) (Vi 0) (.tuple #[Vi 0,.bool false]) (fun a w hJ=>MapAt.now (hmp.sees (Sees.refl _)) hJ) (hl) ?_
    refine go0 25 [] [] ?_
    refine hQ.to [Vi 0,Vi 5] (fun H sH=>?_)
    exact rfl
   | some t =>
    rw [hg] at hev hgt
    rw [hev]
    obtain ⟨i,hl⟩:=mfind_some hgt
    refine oQ Tryz.func175 (c:=Tryz.f175.body.getD .skip) (N:=112) ?_
    intro hbx hbad Q hQ
    refine go1 34 [.own,.b 0 0,.b 0 4] [] ?_
    intro b1
    refine xQ fb (es:=oY ls) (td:=.string) (key:=.string x.nm) (r:=some (i,Vi t)) (Vi 0) (.tuple #[Vi t,.bool true]) (fun a w hJ=>MapAt.now (hmp.sees (Sees.refl _)) hJ) (hl) ?_
    refine go0 27 [] [] ?_
    refine hQ.to [Vi t,Vi 0] (fun H sH=>?_)
    exact rfl
  ·obtain ⟨vs,hr,hvs⟩:=hx.form
   obtain ⟨A,ca,rfl,-,-,-⟩:=hr.form
   have hvl:=hvs.len
   have hrl:=tK hvl
   rw [hrl] at hr ⊢
   rw [if_neg (by omega),if_neg (by omega)] at hev
   rw [hev]
   have hl3:x.args.length≤3:=by rw [h7]; exact arity_le _
   generalize hL:x.args.length=len at *
   obtain ⟨es,hmp,hgt⟩:=hR
   have hRR:RulesAt h rb:=⟨es,hmp,hgt⟩
   have hgt:=hgt x.op
   have htl:(tysE f x.args).length=len:=by rw [tysE,List.length_map,hL]
   refine oQ Tryz.func175 (c:=Tryz.f175.body.getD .skip) (N:=112) ?_
   intro hbx hbad Q hQ
   refine zQ 3 1 ?_
   refine go1 21 [.own,.b 0 0] [] ?_
   intro b1
   refine qQ (t:=x.op == 1) (beq_eq_false_iff_ne.2 (by omega)) ?_
   refine go0 6 [] [] ?_
   refine qQ (t:=x.op == 2) (beq_eq_false_iff_ne.2 (by omega)) ?_
   refine go0 18 [.b 0 5] [] ?_
   refine wQ [0,1,0,1,1,1] [.block 1,.seq [1,1,1,1]] (fun (k:Nat) X=>∃ (W2:Vw) (v:Value),X W2 [(1,.map (some fb)),(2,.map (some rb)),(3,Vp b1),(37,.slice A len ca),(38,Vi (len:Int)),(39,Vi (k:Int)),(10,v)] [.box b1 [Vi x.op,Vi x.k,Vi x.n,.string x.s,.string x.nm,.slice A len ca],.row v 3 1 (mV ((tysE f x.args).take k))] []∧Sees h W2∧(k≤len)∧(∀ y∈x.args.take k,(tyE f y).2=0)) (fun k=>len - k) (0) (fun X q=>⟨h,(Vz),q _ _ _ _ ⟨rfl,by kernel_rfl⟩,Sees.refl _,Nat.zero_le _,(fun y hy=>by simp at hy)⟩) ?_
   rintro k a w ⟨W2,v,hJ,S3,hk,hpre⟩; refine aV hJ ?_; clear hJ a w
   refine go0 6 [] [] ?_
   rcases (by omega:k < len∨len=k) with hlt | hke
   ·obtain ⟨y,hy⟩:∃ y,x.args[k]?=some y:=⟨_,List.getElem?_eq_getElem (by omega)⟩
    obtain ⟨u,hu⟩:∃ u,vs[k]?=some u:=⟨_,List.getElem?_eq_getElem (by omega)⟩
    have hyu:=AllArgs.get hvs hy hu
    obtain ⟨Au,nu,cu,rfl⟩:=hyu.slice
    have hrow:(sK x.args vs)[k]?=some (exRow y (.slice Au nu cu)):=by show (List.zipWith exRow _ _)[k]?=_; rw [List.getElem?_zipWith,hy,hu]
    have hym:=List.mem_of_getElem? hy
    have hcall:=fun H q1 q2 q3=>IH y (.slice Au nu cu) H (by have:=(szL_mem hym).1; omega) q1 (hwl.get hym) q2 q3
    have hek:(tysE f x.args)[k]?=some (tyE f y).1:=by rw [tysE,List.getElem?_map,hy]; rfl
    have htk:=sY _ k _ hek
    have hxk:=sY _ k _ hy
    have htn:((tysE f x.args).take k).length=k:=by rw [List.length_take,htl]; omega
    refine eV (t:=decide ((k:Int) < (len:Int))) (decide_eq_true (by omega)) ?_
    refine go0 6 [] [] ?_
    obtain ⟨b4,o5,rfl,-,c6⟩:=RS.row hr (hrow)
    refine pQ (c6.sees S3) ?_
    refine go1 26 [.ix b4 o5 len ca k,.f 0 0,.own,.b 0 0,.b 0 0,.cl 175 #[.agg #[Vi y.op,Vi y.k,Vi y.n,.string y.s,.string y.nm,.slice Au nu cu],.map (some fb),.map (some rb)] (.tuple #[Vi ((tyE f y).1),Vi ((tyE f y).2)])] [] ?_ (ho:=(And.intro (by first | omega | (simp; omega)) (And.intro (fun H sH=>hcall _ (hyu.sees (S3.trans sH)) (hF.sees (S3.trans sH)) (hRR.sees (S3.trans sH))) (trivial))))
    intro b7
    by_cases he:(tyE f y).2=0
    ·refine qQ (t:=((tyE f y).2) != 0) (bne_eq_false_iff_eq.2 he) ?_
     refine kV 6 [.fix] [] ?_
     intro b8 W9 S10
     refine goa0 9 [.ap 2 0 (mV ((tysE f x.args).take k)) [[Vi ((tyE f y).1)]]] [(57,Vi (IntKind.i64.wrap ((k:Int) + 1)),Vi ((k:Int) + 1))] ?_ (ho:=(And.intro (by rw [List.length_map,htn]; simp; omega) (trivial))) (hc:=(And.intro (jJ (by omega) (by omega)) (trivial)))
     intro v56 W11 S12
     refine uQ [(1,.map (some fb)),(2,.map (some rb)),(3,Vp b1),(37,.slice (some ⟨b4,o5,none⟩) len ca),(38,Vi (len:Int)),(10,.slice (sA v56) (sN v56) (sC v56)),(39,Vi ((k:Int) + 1))] [.box b1 [Vi x.op,Vi x.k,Vi x.n,.string x.s,.string x.nm,.slice (some ⟨b4,o5,none⟩) len ca],.row (.slice (sA v56) (sN v56) (sC v56)) 3 1 ((mV ((tysE f x.args).take k))++[[Vi ((tyE f y).1)]])] [] ?_
     exact dV (k + 1) (fun X q=>⟨W11,.slice (sA v56) (sN v56) (sC v56),q _ _ _ _ (fY (by rw [htk]; simp)),(S3.trans (S10.trans S12)),by omega,(fun z hz=>by rw [hxk] at hz; rcases List.mem_append.1 hz with q | q; exact hpre z q; rw [List.mem_singleton.1 q]; exact he)⟩) (by omega)
    ·skip
     refine eV (t:=((tyE f y).2) != 0) (bne_iff_ne.2 he) ?_
     refine go0 11 [] [] ?_
     refine vQ ?_
     refine go0 2 [] [] ?_
     have htE:=tyL_err hy hpre he
     refine hQ.to [Vi 0,Vi ((tyE f y).2)] (fun H sH=>?_)
     rw [if_neg (by rw [htE]; exact he),htE]; rfl
   ·skip
    have hta:x.args.take k=x.args:=List.take_of_length_le (by omega)
    have htb:(tysE f x.args).take k=(tysE f x.args):=List.take_of_length_le (by omega)
    rw [hta] at hpre
    have htE:=tyL_all hpre
    rw [htb]
    rw [htE] at hev
    generalize (tysE f x.args)=tys at *
    refine g_form 1 (v:=v) (e:=3) (kk:=1) (l:=mV tys) ?_; intro A2 c2 hE_v hc_v hm_v
    rw [show (mV tys).length=k from by first | omega | (simp; done) | (simp; omega)] at hE_v hc_v
    rw [hE_v]
    refine tQ 1 (v:=.slice A2 k c2) (e:=3) (kk:=1) (l:=mV tys) ?_; intro W13 S14 fr
    refine qQ (t:=decide ((k:Int) < (len:Int))) (decide_eq_false (by omega)) ?_
    refine go0 2 [] [] ?_
    refine vQ ?_
    refine go0 7 [.b 0 0] [] ?_
    cases hru:ruleT x.op with
    | some ru =>
     obtain ⟨ta,t⟩:=ru
     rw [hru] at hgt
     obtain ⟨Ar,nr,cr,hge,hrr⟩:=hgt
     obtain ⟨i,hl⟩:=ifind_some hge
     have hq:=fun H q1 q2=>equal_any tys ta (.slice A2 k c2) (.slice Ar nr cr) H q1 q2
     refine xQ rb (es:=lV es) (td:=.int .i64) (key:=Vi x.op) (r:=some (i,.agg #[.slice Ar nr cr,Vi t])) (.agg #[Vz,Vi 0]) (.tuple #[.agg #[.slice Ar nr cr,Vi t],.bool true]) (fun a w hJ=>MapAt.now (hmp.sees (S3.trans S14)) hJ) (hl) ?_
     refine go1 22 [.own,.b 0 0,.b 0 0,.cl 41 #[.slice A2 k c2,.slice Ar nr cr] (.bool (decide (tys=ta)))] [] ?_ (ho:=(And.intro (fun H sH=>hq _ (fr.sees sH) (hrr.sees (S3.trans (S14.trans sH)))) (trivial)))
     intro b15
     by_cases e:tys=ta
     ·skip
      refine eV (t:=decide (tys=ta)) (decide_eq_true e) ?_
      refine go0 11 [.b 0 1] [] ?_
      refine hQ.to [Vi t,Vi 0] (fun H sH=>?_)
      exact ret2 (by rw [htE,if_pos rfl]; unfold opTy; rw [hru]; simp [e])
     ·skip
      refine qQ (t:=decide (tys=ta)) (decide_eq_false e) ?_
      refine go0 16 [] [] ?_
      refine hQ.to [Vi 0,Vi 9] (fun H sH=>?_)
      exact ret2 (by rw [htE,if_pos rfl]; unfold opTy; rw [hru]; simp [e])
    | none =>
     rw [hru] at hgt
     have hl:=ifind_none hgt
     have htk:tys.length=k:=by omega
     rcases rule_none h1 ho2 hru with h17 | ⟨h17,ho3,ho4⟩
     ·have hk3:k=3:=by rw [← hke,h7,h17]; rfl
      obtain ⟨p,q,r,rfl⟩:∃ p q r,tys=[p,q,r]:=by
       match tys,htk.trans hk3 with
       | [p,q,r],_=>exact ⟨p,q,r,rfl⟩
      have r0:(mV [p,q,r])[0]?=some [.int .i64 p]:=rfl
      have r1:(mV [p,q,r])[1]?=some [.int .i64 q]:=rfl
      have r2:(mV [p,q,r])[2]?=some [.int .i64 r]:=rfl
      by_cases hp:p=2
      ·skip
       by_cases hq:q=r
       ·skip
        refine xQ rb (es:=lV es) (td:=.int .i64) (key:=Vi x.op) (r:=none) (.agg #[Vz,Vi 0]) (.tuple #[.agg #[Vz,Vi 0],.bool false]) (fun a w hJ=>MapAt.now (hmp.sees (S3.trans S14)) hJ) (hl) ?_
        refine go1 31 [.own,.b 0 0] [] ?_
        intro b16
        obtain ⟨b17,o18,rfl,-,c19⟩:=RS.row fr (r0)
        refine pQ (c19.sees (Sees.refl _)) ?_
        have c20:=RS.cell fr (r1)
        refine pQ (c20.sees (Sees.refl _)) ?_
        have c21:=RS.cell fr (r2)
        refine pQ (c21.sees (Sees.refl _)) ?_
        refine cV 19 0 [.pu,.ld 1 0,.v (fun gh=>.bool true),.pu,.pu,.v (fun gh=>.pointer (some ⟨b17,o18 + 0 * 1,none⟩)),.lf 2 0,.v (fun gh=>.bool true),.pu,.pu,.pu,.v (fun gh=>.pointer (some ⟨b17,o18 + 1 * 1,none⟩)),.lf 1 0,.pu,.v (fun gh=>.pointer (some ⟨b17,o18 + 2 * 1,none⟩)),.lf 0 0,.v (fun gh=>.bool true),.pu,.pu] [] (trivial) ?_ ?_
        ·intro R hT hA hmono
         refine And.intro (t_eq hT hA (fun gh=>.bool true) (fun gh=>.bool (x.op == 17)) (fun gh=>congrArg Value.bool (beq_iff_eq.2 h17))) ?_
         refine And.intro (rY hT hA b17 o18 k c2 0 (fun gh=>.pointer (some ⟨b17,o18 + 0 * 1,none⟩)) (by first | omega | (simp; omega))) ?_
         refine And.intro (t_eq hT hA (fun gh=>.bool true) (fun gh=>.bool (p == 2)) (fun gh=>congrArg Value.bool (beq_iff_eq.2 hp))) ?_
         refine And.intro (rY hT hA b17 o18 k c2 1 (fun gh=>.pointer (some ⟨b17,o18 + 1 * 1,none⟩)) (by first | omega | (simp; omega))) ?_
         refine And.intro (rY hT hA b17 o18 k c2 2 (fun gh=>.pointer (some ⟨b17,o18 + 2 * 1,none⟩)) (by first | omega | (simp; omega))) ?_
         refine And.intro (t_eq hT hA (fun gh=>.bool true) (fun gh=>.bool (q == r)) (fun gh=>congrArg Value.bool (beq_iff_eq.2 hq))) ?_
         trivial
        rintro W22 S23 -
        refine go0 5 [] [] ?_
        have c24:=RS.cell fr (r1)
        refine pQ (c24.sees S23) ?_
        refine go0 9 [.ix b17 o18 k c2 1,.f 0 0] [] ?_ (ho:=(And.intro (by first | omega | (simp; omega)) (trivial)))
        refine hQ.to [Vi q,Vi 0] (fun H sH=>?_)
        exact ret2 (by rw [htE,if_pos rfl]; unfold opTy; rw [hru]; simp [h17,hp,hq])
       ·skip
        refine xQ rb (es:=lV es) (td:=.int .i64) (key:=Vi x.op) (r:=none) (.agg #[Vz,Vi 0]) (.tuple #[.agg #[Vz,Vi 0],.bool false]) (fun a w hJ=>MapAt.now (hmp.sees (S3.trans S14)) hJ) (hl) ?_
        refine go1 31 [.own,.b 0 0] [] ?_
        intro b25
        obtain ⟨b26,o27,rfl,-,c28⟩:=RS.row fr (r0)
        refine pQ (c28.sees (Sees.refl _)) ?_
        have c29:=RS.cell fr (r1)
        refine pQ (c29.sees (Sees.refl _)) ?_
        have c30:=RS.cell fr (r2)
        refine pQ (c30.sees (Sees.refl _)) ?_
        refine cV 19 0 [.pu,.ld 1 0,.v (fun gh=>.bool true),.pu,.pu,.v (fun gh=>.pointer (some ⟨b26,o27 + 0 * 1,none⟩)),.lf 2 0,.v (fun gh=>.bool true),.pu,.pu,.pu,.v (fun gh=>.pointer (some ⟨b26,o27 + 1 * 1,none⟩)),.lf 1 0,.pu,.v (fun gh=>.pointer (some ⟨b26,o27 + 2 * 1,none⟩)),.lf 0 0,.v (fun gh=>.bool false),.pu,.pu] [] (trivial) ?_ ?_
        ·intro R hT hA hmono
         refine And.intro (t_eq hT hA (fun gh=>.bool true) (fun gh=>.bool (x.op == 17)) (fun gh=>congrArg Value.bool (beq_iff_eq.2 h17))) ?_
         refine And.intro (rY hT hA b26 o27 k c2 0 (fun gh=>.pointer (some ⟨b26,o27 + 0 * 1,none⟩)) (by first | omega | (simp; omega))) ?_
         refine And.intro (t_eq hT hA (fun gh=>.bool true) (fun gh=>.bool (p == 2)) (fun gh=>congrArg Value.bool (beq_iff_eq.2 hp))) ?_
         refine And.intro (rY hT hA b26 o27 k c2 1 (fun gh=>.pointer (some ⟨b26,o27 + 1 * 1,none⟩)) (by first | omega | (simp; omega))) ?_
         refine And.intro (rY hT hA b26 o27 k c2 2 (fun gh=>.pointer (some ⟨b26,o27 + 2 * 1,none⟩)) (by first | omega | (simp; omega))) ?_
         refine And.intro (t_eq hT hA (fun gh=>.bool false) (fun gh=>.bool (q == r)) (fun gh=>congrArg Value.bool (beq_eq_false_iff_ne.2 hq))) ?_
         trivial
        rintro W31 S32 -
        refine go0 3 [] [] ?_
        refine cV 13 0 [.pu,.ld 1 0,.v (fun gh=>.bool false),.pu,.ps,.ps,.ps,.ps,.ps,.ps,.ps,.pu,.pu] [] (trivial) ?_ ?_
        ·intro R hT hA hmono
         refine And.intro (t_eq hT hA (fun gh=>.bool false) (fun gh=>.bool (x.op != 17)) (fun gh=>congrArg Value.bool (bne_eq_false_iff_eq.2 h17))) ?_
         trivial
        rintro W33 S34 -
        refine go0 12 [] [] ?_
        refine hQ.to [Vi 0,Vi 9] (fun H sH=>?_)
        exact ret2 (by rw [htE,if_pos rfl]; unfold opTy; rw [hru]; simp [h17,hp,hq])
      ·skip
       refine xQ rb (es:=lV es) (td:=.int .i64) (key:=Vi x.op) (r:=none) (.agg #[Vz,Vi 0]) (.tuple #[.agg #[Vz,Vi 0],.bool false]) (fun a w hJ=>MapAt.now (hmp.sees (S3.trans S14)) hJ) (hl) ?_
       refine go1 31 [.own,.b 0 0] [] ?_
       intro b35
       obtain ⟨b36,o37,rfl,-,c38⟩:=RS.row fr (r0)
       refine pQ (c38.sees (Sees.refl _)) ?_
       have c39:=RS.cell fr (r1)
       refine pQ (c39.sees (Sees.refl _)) ?_
       have c40:=RS.cell fr (r2)
       refine pQ (c40.sees (Sees.refl _)) ?_
       refine cV 19 0 [.pu,.ld 1 0,.v (fun gh=>.bool true),.pu,.pu,.v (fun gh=>.pointer (some ⟨b36,o37 + 0 * 1,none⟩)),.lf 2 0,.v (fun gh=>.bool false),.pu,.pu,.ps,.ps,.ps,.ps,.ps,.ps,.ps,.pu,.pu] [] (trivial) ?_ ?_
       ·intro R hT hA hmono
        refine And.intro (t_eq hT hA (fun gh=>.bool true) (fun gh=>.bool (x.op == 17)) (fun gh=>congrArg Value.bool (beq_iff_eq.2 h17))) ?_
        refine And.intro (rY hT hA b36 o37 k c2 0 (fun gh=>.pointer (some ⟨b36,o37 + 0 * 1,none⟩)) (by first | omega | (simp; omega))) ?_
        refine And.intro (t_eq hT hA (fun gh=>.bool false) (fun gh=>.bool (p == 2)) (fun gh=>congrArg Value.bool (beq_eq_false_iff_ne.2 hp))) ?_
        trivial
       rintro W41 S42 -
       refine go0 3 [] [] ?_
       refine cV 13 0 [.pu,.ld 1 0,.v (fun gh=>.bool false),.pu,.ps,.ps,.ps,.ps,.ps,.ps,.ps,.pu,.pu] [] (trivial) ?_ ?_
       ·intro R hT hA hmono
        refine And.intro (t_eq hT hA (fun gh=>.bool false) (fun gh=>.bool (x.op != 17)) (fun gh=>congrArg Value.bool (bne_eq_false_iff_eq.2 h17))) ?_
        trivial
       rintro W43 S44 -
       refine go0 12 [] [] ?_
       refine hQ.to [Vi 0,Vi 9] (fun H sH=>?_)
       exact ret2 (by rw [htE,if_pos rfl]; unfold opTy; rw [hru]; simp [h17,hp])
     ·skip
      have hk2:k=2:=by
       rw [← hke,h7]; unfold arity
       rw [if_neg (by omega),if_neg (by omega),if_neg h17]
      obtain ⟨p,q,rfl⟩:∃ p q,tys=[p,q]:=by
       match tys,htk.trans hk2 with
       | [p,q],_=>exact ⟨p,q,rfl⟩
      have r0:(mV [p,q])[0]?=some [.int .i64 p]:=rfl
      have r1:(mV [p,q])[1]?=some [.int .i64 q]:=rfl
      by_cases hp:p=q
      ·skip
       refine xQ rb (es:=lV es) (td:=.int .i64) (key:=Vi x.op) (r:=none) (.agg #[Vz,Vi 0]) (.tuple #[.agg #[Vz,Vi 0],.bool false]) (fun a w hJ=>MapAt.now (hmp.sees (S3.trans S14)) hJ) (hl) ?_
       refine go1 31 [.own,.b 0 0] [] ?_
       intro b45
       refine cV 19 0 [.pu,.ld 1 0,.v (fun gh=>.bool false),.pu,.ps,.ps,.ps,.ps,.pu,.pu,.ps,.ps,.ps,.ps,.ps,.ps,.ps,.pu,.pu] [] (trivial) ?_ ?_
       ·intro R hT hA hmono
        refine And.intro (t_eq hT hA (fun gh=>.bool false) (fun gh=>.bool (x.op == 17)) (fun gh=>congrArg Value.bool (beq_eq_false_iff_ne.2 h17))) ?_
        trivial
       rintro W46 S47 -
       refine go0 3 [] [] ?_
       obtain ⟨b48,o49,rfl,-,c50⟩:=RS.row fr (r0)
       refine pQ (c50.sees S47) ?_
       have c51:=RS.cell fr (r1)
       refine pQ (c51.sees S47) ?_
       refine cV 13 0 [.pu,.ld 1 0,.v (fun gh=>.bool true),.pu,.pu,.v (fun gh=>.pointer (some ⟨b48,o49 + 0 * 1,none⟩)),.lf 1 0,.pu,.v (fun gh=>.pointer (some ⟨b48,o49 + 1 * 1,none⟩)),.lf 0 0,.v (fun gh=>.bool true),.pu,.pu] [] (trivial) ?_ ?_
       ·intro R hT hA hmono
        refine And.intro (t_eq hT hA (fun gh=>.bool true) (fun gh=>.bool (x.op != 17)) (fun gh=>congrArg Value.bool (bne_iff_ne.2 h17))) ?_
        refine And.intro (rY hT hA b48 o49 k c2 0 (fun gh=>.pointer (some ⟨b48,o49 + 0 * 1,none⟩)) (by first | omega | (simp; omega))) ?_
        refine And.intro (rY hT hA b48 o49 k c2 1 (fun gh=>.pointer (some ⟨b48,o49 + 1 * 1,none⟩)) (by first | omega | (simp; omega))) ?_
        refine And.intro (t_eq hT hA (fun gh=>.bool true) (fun gh=>.bool (p == q)) (fun gh=>congrArg Value.bool (beq_iff_eq.2 hp))) ?_
        trivial
       rintro W52 S53 -
       refine go0 11 [] [] ?_
       refine hQ.to [Vi 2,Vi 0] (fun H sH=>?_)
       exact ret2 (by rw [htE,if_pos rfl]; unfold opTy; rw [hru]; simp [h17,hp])
      ·skip
       refine xQ rb (es:=lV es) (td:=.int .i64) (key:=Vi x.op) (r:=none) (.agg #[Vz,Vi 0]) (.tuple #[.agg #[Vz,Vi 0],.bool false]) (fun a w hJ=>MapAt.now (hmp.sees (S3.trans S14)) hJ) (hl) ?_
       refine go1 31 [.own,.b 0 0] [] ?_
       intro b54
       refine cV 19 0 [.pu,.ld 1 0,.v (fun gh=>.bool false),.pu,.ps,.ps,.ps,.ps,.pu,.pu,.ps,.ps,.ps,.ps,.ps,.ps,.ps,.pu,.pu] [] (trivial) ?_ ?_
       ·intro R hT hA hmono
        refine And.intro (t_eq hT hA (fun gh=>.bool false) (fun gh=>.bool (x.op == 17)) (fun gh=>congrArg Value.bool (beq_eq_false_iff_ne.2 h17))) ?_
        trivial
       rintro W55 S56 -
       refine go0 3 [] [] ?_
       obtain ⟨b57,o58,rfl,-,c59⟩:=RS.row fr (r0)
       refine pQ (c59.sees S56) ?_
       have c60:=RS.cell fr (r1)
       refine pQ (c60.sees S56) ?_
       refine cV 13 0 [.pu,.ld 1 0,.v (fun gh=>.bool true),.pu,.pu,.v (fun gh=>.pointer (some ⟨b57,o58 + 0 * 1,none⟩)),.lf 1 0,.pu,.v (fun gh=>.pointer (some ⟨b57,o58 + 1 * 1,none⟩)),.lf 0 0,.v (fun gh=>.bool false),.pu,.pu] [] (trivial) ?_ ?_
       ·intro R hT hA hmono
        refine And.intro (t_eq hT hA (fun gh=>.bool true) (fun gh=>.bool (x.op != 17)) (fun gh=>congrArg Value.bool (bne_iff_ne.2 h17))) ?_
        refine And.intro (rY hT hA b57 o58 k c2 0 (fun gh=>.pointer (some ⟨b57,o58 + 0 * 1,none⟩)) (by first | omega | (simp; omega))) ?_
        refine And.intro (rY hT hA b57 o58 k c2 1 (fun gh=>.pointer (some ⟨b57,o58 + 1 * 1,none⟩)) (by first | omega | (simp; omega))) ?_
        refine And.intro (t_eq hT hA (fun gh=>.bool false) (fun gh=>.bool (p == q)) (fun gh=>congrArg Value.bool (beq_eq_false_iff_ne.2 hp))) ?_
        trivial
       rintro W61 S62 -
       refine go0 12 [] [] ?_
       refine hQ.to [Vi 0,Vi 9] (fun H sH=>?_)
       exact ret2 (by rw [htE,if_pos rfl]; unfold opTy; rw [hru]; simp [h17,hp])
end Go.Proofs.YtmoahpojchndiaaGreat
namespace Go.Proofs.YtmoahpojchndiaaGreat
open Go.RowKit
def mpB:Value→Nat | .map (some b)=>b | _=>0
theorem types_u (fs:List Fd) (v:Value) (h:Vw) (hf:IsFds h v fs):C0 Tryz.prog 176 #[v] h (fun r h'=>∃ u,r=.map (some (mpB u))∧TypesAt h' (mpB u) (tyF fs)):=by
 intro a b c d
 refine (types_any fs v h hf a b c d).mono ?_
 rintro e w' ⟨v,Bo,rfl,h1,h2,h3,b,rfl,h4⟩
 exact ⟨_,Bo,rfl,h1,h2,h3,.map (some b),rfl,h4⟩
theorem rules_u (h:Vw):C0 Tryz.prog 177 #[] h (fun r h'=>∃ u,r=.map (some (mpB u))∧RulesAt h' (mpB u)):=by
 intro a b c d
 refine (rules_any h a b c d).mono ?_
 rintro e w' ⟨v,Bo,rfl,h1,h2,h3,b,rfl,h4⟩
 exact ⟨_,Bo,rfl,h1,h2,h3,.map (some b),rfl,h4⟩
def ofE (fs:List Fd) (x:Ex):Int × Int:=if chkE x=0 then tyE (tyF fs) x else (0,chkE x)
theorem tyOf_any (fs:List Fd) (x:Ex) (v fv:Value) (h:Vw) (hx:IsArgs h x v) (hw:WfE x) (hb:(szE x).1 < 1000000) (hf:IsFds h fv fs) :
  C0 Tryz.prog 140 #[.agg #[.int .i64 x.op,.int .i64 x.k,.int .i64 x.n,.string x.s,.string x.nm,v],fv] h (fun r _=>r=.tuple #[.int .i64 (ofE fs x).1,.int .i64 (ofE fs x).2]):=by
 obtain ⟨A,n,c,rfl⟩:=hx.slice
 obtain ⟨Af,nf,cf,rfl⟩:∃ A n c,fv=.slice A n c:=by
  obtain ⟨vs,hr,-⟩:=hf
  obtain ⟨A,c,e,-⟩:=hr.form
  exact ⟨_,_,_,e⟩
 have hck:=fun H q=>check_any x (.slice A n c) H q hw hb
 have hO:=fun fb rb H q1 q2 q3=>tyof_any (tyF fs) fb rb _ x (.slice A n c) H (Nat.le_refl _) q1 hw q2 q3
 have hTy:=fun H q=>types_u fs (.slice Af nf cf) H q
 unfold ofE
 generalize chkE x=e at *
 generalize tyE (tyF fs) x=ty at *
 refine oQ Tryz.func140 (c:=Tryz.f140.body.getD .skip) (N:=19) ?_
 intro hbx hbad Q hQ
 refine go1 21 [.own,.b 0 0,.cl 104 #[.agg #[Vi x.op,Vi x.k,Vi x.n,.string x.s,.string x.nm,.slice A n c]] (Vi e)] [] ?_ (ho:=(And.intro (fun H sH=>hck _ (hx.sees sH)) (trivial)))
 intro b1
 by_cases he:e=0
 ·skip
  refine qQ (t:=e != 0) (bne_eq_false_iff_eq.2 he) ?_
  refine go0 3 [] [] ?_
  refine cV 9 0 [.ld 0 0,.pu,.f (fun gh=>.map (some (mpB (gh 2)))) (fun gh hh=>TypesAt hh (mpB (gh 2)) (tyF fs)),.f (fun gh=>.map (some (mpB (gh 3)))) (fun gh hh=>RulesAt hh (mpB (gh 3))),.v (fun gh=>.tuple #[Vi ty.1,Vi ty.2]),.pu,.pu,.pu,.pu] [(2,false),(3,false)] (And.intro (fun _ _ _ s c=>c.sees s) (And.intro (fun _ _ _ s c=>c.sees s) (trivial))) ?_ ?_
  ·intro R hT hA hmono
   refine And.intro (jX hT hA hmono ⟨fun _ _=>by kernel_rfl,fun _ _=>by kernel_rfl,fun _ _=>by kernel_rfl⟩ 14 (fun u=>.map (some (mpB u))) [1] 2 176 (fun gh=>#[.slice Af nf cf]) (fun gh H sH fH lent=>C0.facts (R:=R) (x:=gh) (i:=2) (n:=0) (F:=(fun u=>.map (some (mpB u)))) (G:=fun u hh=>TypesAt hh (mpB u) (tyF fs)) (f:=fun gh hh=>TypesAt hh (mpB (gh 2)) (tyF fs)) (hTy _ (hf.sees sH)) (by kernel_rfl) (by kernel_rfl) (fun _ _ r=>r))) ?_
   refine And.intro (jX hT hA hmono ⟨fun _ _=>by kernel_rfl,fun _ _=>by kernel_rfl,fun _ _=>by kernel_rfl⟩ 15 (fun u=>.map (some (mpB u))) [2] 3 177 (fun gh=>#[]) (fun gh H sH fH lent=>C0.facts (R:=R) (x:=gh) (i:=3) (n:=1) (F:=(fun u=>.map (some (mpB u)))) (G:=fun u hh=>RulesAt hh (mpB u)) (f:=fun gh hh=>RulesAt hh (mpB (gh 3))) (rules_u _) (by kernel_rfl) (by kernel_rfl) (fun _ _ r=>r))) ?_
   refine And.intro (t_v hT hA hmono (k:=175) (args:=(fun gh=>#[.agg #[Vi x.op,Vi x.k,Vi x.n,.string x.s,.string x.nm,.slice A n c],.map (some (mpB (gh 2))),.map (some (mpB (gh 3)))])) (f:=fun gh=>.tuple #[Vi ty.1,Vi ty.2]) (fun gh H sH fH lent=>hO _ _ _ (hx.sees sH) (fH 0 _ rfl (by kernel_rfl)) (fH 1 _ rfl (by kernel_rfl)))) ?_
   trivial
  rintro u14 u15 W2 S3 ⟨f14,f15,-⟩
  replace f14:TypesAt W2 (mpB u14) (tyF fs):=f14
  replace f15:RulesAt W2 (mpB u15):=f15
  refine go0 2 [] [] ?_
  refine hQ.to [Vi ty.1,Vi ty.2] (fun H sH=>?_)
  rw [if_pos he]; rfl
 ·skip
  refine eV (t:=e != 0) (bne_iff_ne.2 he) ?_
  refine go0 9 [] [] ?_
  refine hQ.to [Vi 0,Vi e] (fun H sH=>?_)
  rw [if_neg he]; rfl
def fitsE (fs:List Fd) (x:Ex) (want:Int):Int:=if (ofE fs x).2=0 then (if (ofE fs x).1=want then 0 else 9) else (ofE fs x).2
theorem fits_any (fs:List Fd) (x:Ex) (v fv:Value) (want:Int) (h:Vw) (hx:IsArgs h x v) (hw:WfE x) (hb:(szE x).1 < 1000000) (hf:IsFds h fv fs) :
  C0 Tryz.prog 164 #[.agg #[.int .i64 x.op,.int .i64 x.k,.int .i64 x.n,.string x.s,.string x.nm,v],fv,.int .i64 want] h (fun r _=>r=.int .i64 (fitsE fs x want)):=by
 obtain ⟨A,n,c,rfl⟩:=hx.slice
 obtain ⟨Af,nf,cf,rfl⟩:∃ A n c,fv=.slice A n c:=by
  obtain ⟨vs,hr,-⟩:=hf
  obtain ⟨A,c,e,-⟩:=hr.form
  exact ⟨_,_,_,e⟩
 have hO:=fun H q1 q2=>tyOf_any fs x (.slice A n c) (.slice Af nf cf) H q1 hw hb q2
 unfold fitsE
 generalize ofE fs x=ty at *
 refine oQ Tryz.func164 (c:=Tryz.f164.body.getD .skip) (N:=21) ?_
 intro hbx hbad Q hQ
 refine go1 25 [.own,.b 0 0,.cl 140 #[.agg #[Vi x.op,Vi x.k,Vi x.n,.string x.s,.string x.nm,.slice A n c],.slice Af nf cf] (.tuple #[Vi ty.1,Vi ty.2])] [] ?_ (ho:=(And.intro (fun H sH=>hO _ (hx.sees sH) (hf.sees sH)) (trivial)))
 intro b1
 by_cases he:ty.2=0
 ·refine qQ (t:=ty.2 != 0) (bne_eq_false_iff_eq.2 he) ?_
  refine go0 10 [] [] ?_
  by_cases hw:ty.1=want
  ·refine qQ (t:=ty.1 != want) (bne_eq_false_iff_eq.2 hw) ?_
   refine go0 8 [] [] ?_
   refine hQ.to [Vi 0] (fun H sH=>?_)
   rw [if_pos he,if_pos hw]; rfl
  ·skip
   refine eV (t:=ty.1 != want) (bne_iff_ne.2 hw) ?_
   refine go0 7 [] [] ?_
   refine hQ.to [Vi 9] (fun H sH=>?_)
   rw [if_pos he,if_neg hw]; rfl
 ·skip
  refine eV (t:=ty.2 != 0) (bne_iff_ne.2 he) ?_
  refine go0 8 [] [] ?_
  refine hQ.to [Vi ty.2] (fun H sH=>?_)
  rw [if_neg he]; rfl
end Go.Proofs.YtmoahpojchndiaaGreat
namespace Go.Proofs.YtmoahpojchndiaaGreat
open Go.RowKit Go.Maps Go.WideElems Go.WideShapes
theorem map_owned {P:Program} {w:World} {b:Nat} {k e:TypeId} {l:List (ByteArray × Value)} (hb:w.heap[b]?=some (wV (oY l))) (hn:(l.map (·.1)).Nodup) (hs:∀ p∈l,p.1.size≤maxLen) (hv:∀ p∈l,p.2=.bool true) (hl:l.length≤maxLen)
  (hk:P.underlying k=some .string) (he:P.underlying e=some .bool):∃ D0:DataW Unit,w.ownsMap P k (plainElem P e) b l.length D0∧(strKeys D0).Perm (l.map fun p=>p.1.data.toList)∧Maps.size D0=l.length:=by
 have hes:(ments (oY l)).toArray.toList=ments (oY l):=rfl
 have hrd:∀ x∈ments (oY l),∃ p∈l,rd P k (plainElem (H:=Unit) P e) x=some (.string p.1.data.toList,.lit (.bool true)):=fun x hx=>by
  obtain ⟨i,hi⟩:=List.getElem?_of_mem hx
  rw [ments_get,oY,List.getElem?_map] at hi
  cases hp:l[i]? with
  | none=>rw [hp] at hi; cases hi
  | some p =>
   rw [hp] at hi
   simp only [Option.map_some,Option.some.injEq] at hi
   subst hi
   have hm:=List.mem_of_getElem? hp
   refine ⟨p,hm,?_⟩
   have h1:=hs p hm
   have h2:=hv p hm
   simp [rd,keyOf,mapKey,hk,h1,plainElem,he,h2]
 have hmap:(ments (oY l)).map (rg P k (plainElem (H:=Unit) P e))=l.map fun p=>(Lit.string p.1.data.toList,DataW.lit (.bool true)):=by
  refine List.ext_getElem? fun i=>?_
  rw [List.getElem?_map,ments_get,oY,List.getElem?_map,List.getElem?_map]
  cases hp:l[i]? with
  | none=>rfl
  | some p =>
   have hm:=List.mem_of_getElem? hp
   have h1:=hs p hm
   have h2:=hv p hm
   simp [rg,rd,keyOf,mapKey,hk,h1,plainElem,he,h2]
 have hlen:(ments (oY l)).length=l.length:=by simp [ments,oY]
 refine ⟨_,⟨(ments (oY l)).toArray,l.length,?_,⟨by simpa [hlen] using hl,?_,fun x hx=>?_⟩,by simp [hlen],rfl⟩,?_,?_⟩
 ·rw [hb,wV]; simp [oY]
 ·rw [Go.MapKept.stamped_iff,hes]
  have hborn:(ments (oY l)).map (·.born)=List.range l.length:=by
   refine List.ext_getElem? fun i=>?_
   rw [List.getElem?_map,ments_get,oY,List.getElem?_map]
   rcases Nat.lt_or_ge i l.length with g | g
   ·rw [List.getElem?_eq_getElem g,List.getElem?_range g]; rfl
   ·rw [List.getElem?_eq_none g,List.getElem?_eq_none (by simpa using g)]; rfl
  have hkeys:(ments (oY l)).map (·.key)=l.map fun p=>Value.string p.1:=by
   refine List.ext_getElem? fun i=>?_
   rw [List.getElem?_map,ments_get,oY,List.getElem?_map,List.getElem?_map]
   cases l[i]? <;> rfl
  refine ⟨fun x hx=>?_,by rw [hborn]; exact List.nodup_range,?_⟩
  ·have:x.born∈(ments (oY l)).map (·.born):=List.mem_map.2 ⟨x,hx,rfl⟩
   rw [hborn] at this
   exact List.mem_range.1 this
  ·have:((ments (oY l)).map (·.key)).Nodup:=by
    rw [hkeys]
    have h2:(l.map fun p=>Value.string p.1)=(l.map (·.1)).map Value.string:=by rw [List.map_map]; rfl
    rw [h2]
    exact List.pairwise_map.2 (hn.imp fun hne e=>hne (by injection e))
   exact List.pairwise_map.1 this
 ·obtain ⟨p,-,h⟩:=hrd x hx; exact ⟨_,h⟩
 ·rw [hes,hmap]
  show (List.map (fun (p:Lit × DataW Unit)=>strOf p.1) _).Perm _
  refine ((sorted_perm _).map _).trans ?_
  rw [List.map_map]
  exact List.Perm.refl _
 ·rw [hes,hmap]
  show (List.foldr DataW.insert [] _).length=_
  rw [(sorted_perm _).length_eq,List.length_map]
end Go.Proofs.YtmoahpojchndiaaGreat
namespace Go.Proofs.YtmoahpojchndiaaGreat
open Go.RowKit
end Go.Proofs.YtmoahpojchndiaaGreat
namespace Go.Proofs.YtmoahpojchndiaaGreat
open Go.RowKit
theorem copy_rec:∀ (m:Nat) (x:Ex) (v:Value) (h:Vw),(szE x).1≤m→IsArgs h x v→(szE x).1 < 1000000 →
  C0 Tryz.prog 130 #[.agg #[.int .i64 x.op,.int .i64 x.k,.int .i64 x.n,.string x.s,.string x.nm,v]] h (fun r h'=>∃ u,r=.agg #[.int .i64 x.op,.int .i64 x.k,.int .i64 x.n,.string x.s,.string x.nm,.slice (sA u) (sN u) (sC u)]∧IsArgs h' x (.slice (sA u) (sN u) (sC u)))
 | 0,x,v,h,hm,_,_=>by have:=szE_pos x; omega
 | m + 1,x,v,h,hm,hx,hb=>by
  have IH:=copy_rec m
  have hse:=qY x
  obtain ⟨ws,hr,hws⟩:=hx.form
  obtain ⟨A,ca,rfl,hc1,hc2,-⟩:=hr.form
  have hwl:=hws.len
  have hrl:=tK hwl
  have hlen:=szL_len x.args
  rw [hrl] at hc1 hr ⊢
  rw [hse] at hm hb
  simp only at hm hb
  generalize hL:x.args.length=len at *
  refine oQ Tryz.func130 (c:=Tryz.f130.body.getD .skip) (N:=24) ?_
  intro hbx hbad Q hQ
  refine zQ 54 6 ?_
  refine gov3 29 [.fix,.own,.f 0 0,.own,.b 0 0,.b 0 5,.f 0 5] [] ?_
  intro b1 b2 b3 W4 S5
  refine wQ [0,1,0,1,1,1] [.block 0,.seq [1,1,1,1]] (fun (k:Nat) X=>∃ (W6:Vw) (v:Value) (vs:List Value),X W6 [(2,Vp b2),(3,Vp b3),(9,.slice A len ca),(10,Vi (len:Int)),(11,Vi (k:Int))] [.box b3 [Vi x.op,Vi x.k,Vi x.n,.string x.s,.string x.nm,v],.box b2 [Vi 0,Vi 0,Vi 0,Ve,Ve,Vz],.row v 54 6 (sK (x.args.take k) vs)] [(b1,0,[Vi x.op,Vi x.k,Vi x.n,.string x.s,.string x.nm,.slice A len ca])]∧Sees W4 W6∧(k≤len)∧(AllArgs W6 (x.args.take k) vs)) (fun k=>len - k) (0) (fun X q=>⟨W4,(Vz),[],q _ _ _ _ ⟨rfl,by kernel_rfl⟩,Sees.refl _,Nat.zero_le _,by unfold AllArgs; rfl⟩) ?_
  rintro k a w ⟨W6,v,vs,hJ,S7,hk,hvs⟩; refine aV hJ ?_; clear hJ a w
  refine go0 6 [] [] ?_
  rcases (by omega:k < len∨len=k) with hlt | hke
  ·obtain ⟨y,hy⟩:∃ y,x.args[k]?=some y:=⟨_,List.getElem?_eq_getElem (by omega)⟩
   obtain ⟨u,hu⟩:∃ u,ws[k]?=some u:=⟨_,List.getElem?_eq_getElem (by omega)⟩
   have hyu:=AllArgs.get hws hy hu
   obtain ⟨Au,nu,cu,rfl⟩:=hyu.slice
   have hym:=szL_mem (List.mem_of_getElem? hy)
   have hrow:(sK x.args ws)[k]?=some (exRow y (.slice Au nu cu)):=by show (List.zipWith exRow _ _)[k]?=_; rw [List.getElem?_zipWith,hy,hu]
   have hsn:=sY _ k y hy
   have hvl:=hvs.len
   have hrl2:=tK hvl
   have htl:(x.args.take k).length=k:=by rw [List.length_take]; omega
   refine eV (t:=decide ((k:Int) < (len:Int))) (decide_eq_true (by omega)) ?_
   refine go0 6 [] [] ?_
   obtain ⟨b8,o9,rfl,-,c10⟩:=RS.row hr (hrow)
   refine pQ (c10.sees (S5.trans S7)) ?_
   refine go1 6 [.ix b8 o9 len ca k,.f 0 0,.own,.b 0 0] [] ?_ (ho:=(And.intro (by first | omega | (simp; omega)) (trivial)))
   intro b11
   refine cV 8 0 [.pu,.ld 1 5,.ld 0 0,.f (fun gh=>.agg #[Vi y.op,Vi y.k,Vi y.n,.string y.s,.string y.nm,.slice (sA (gh 3)) (sN (gh 3)) (sC (gh 3))]) (fun gh hh=>IsArgs hh y (.slice (sA (gh 3)) (sN (gh 3)) (sC (gh 3)))),.f (fun gh=>.slice (some ⟨(vJ (gh 4)),0,none⟩) 1 1) (fun gh hh=>Cells hh (vJ (gh 4)) 0 [Vi y.op,Vi y.k,Vi y.n,.string y.s,.string y.nm,.slice (sA (gh 3)) (sN (gh 3)) (sC (gh 3))]),.e (fun gh=>.slice (sA (gh 5)) (sN (gh 5)) (sC (gh 5))) 3 (fun gh=>.row (.slice (sA (gh 5)) (sN (gh 5)) (sC (gh 5))) 54 6 ((sK (x.args.take k) vs)++[[Vi y.op,Vi y.k,Vi y.n,.string y.s,.string y.nm,.slice (sA (gh 3)) (sN (gh 3)) (sC (gh 3))]])),.pu,.st 1 5] [(3,false),(4,true),(5,false)] (And.intro (fun _ _ _ s c=>c.sees s) (And.intro (fun _ _ _ s c=>c.sees s) (trivial))) ?_ ?_
   ·intro R hT hA hmono
    refine And.intro (jX hT hA hmono ⟨fun _ _=>by kernel_rfl,fun _ _=>by kernel_rfl,fun _ _=>by kernel_rfl⟩ 18 (fun u=>.agg #[Vi y.op,Vi y.k,Vi y.n,.string y.s,.string y.nm,.slice (sA u) (sN u) (sC u)]) [2] 3 130 (fun gh=>#[.agg #[Vi y.op,Vi y.k,Vi y.n,.string y.s,.string y.nm,.slice Au nu cu]]) (fun gh H sH fH lent=>C0.facts (R:=R) (x:=gh) (i:=3) (n:=0) (F:=(fun u=>.agg #[Vi y.op,Vi y.k,Vi y.n,.string y.s,.string y.nm,.slice (sA u) (sN u) (sC u)])) (G:=fun u hh=>IsArgs hh y (.slice (sA u) (sN u) (sC u))) (f:=fun gh hh=>IsArgs hh y (.slice (sA (gh 3)) (sN (gh 3)) (sC (gh 3)))) (IH y _ _ (by omega) (hyu.sees (S5.trans (S7.trans sH))) (by omega)) (by kernel_rfl) (by kernel_rfl) (fun _ _ r=>r))) ?_
    refine And.intro (r_fact hT hA hmono ⟨fun _ _=>by kernel_rfl,fun _ _=>by kernel_rfl,fun _ _=>by kernel_rfl⟩ 19 (fun g=>Vs g 1 1) [3] 4 (by kernel_rfl) (by kernel_rfl) (fun _=>by kernel_rfl) (fun gh=>[Vi y.op,Vi y.k,Vi y.n,.string y.s,.string y.nm,.slice (sA (gh 3)) (sN (gh 3)) (sC (gh 3))]) 54 (fun _ _=>by kernel_rfl) (fun gh zb zH zc zj zq zhq zhe=>own_fact (i:=4) (k:=1) (f:=fun gh hh=>Cells hh (vJ (gh 4)) 0 [Vi y.op,Vi y.k,Vi y.n,.string y.s,.string y.nm,.slice (sA (gh 3)) (sN (gh 3)) (sC (gh 3))]) (by kernel_rfl) (by kernel_rfl) zc zj zq zhq zhe)) ?_
    refine And.intro (r_append hT hA hmono ⟨fun _ _=>by kernel_rfl,fun _ _=>by kernel_rfl,fun _ _=>by kernel_rfl⟩ (by kernel_rfl) 20 [1,3,4] 5 (by kernel_rfl) (fun _=>by kernel_rfl) 3 (GN R 3) (by kernel_rfl) (by kernel_rfl) (by kernel_rfl) (fun gh=>v) 52 54 6 (fun gh=>sK (x.args.take k) vs) (fun gh=>[[Vi y.op,Vi y.k,Vi y.n,.string y.s,.string y.nm,.slice (sA (gh 3)) (sN (gh 3)) (sC (gh 3))]]) (fun _=>by kernel_rfl) (fun _=>by kernel_rfl) (fun _ _=>by kernel_rfl) (.tmp 16) (.tmp 19) (by kernel_rfl) (by kernel_rfl) (fun gh=>(vJ (gh 4))) 1 1 (fun _=>by kernel_rfl) (fun _=>by kernel_rfl) 1 4 (fun gh hh=>Cells hh (vJ (gh 4)) 0 [Vi y.op,Vi y.k,Vi y.n,.string y.s,.string y.nm,.slice (sA (gh 3)) (sN (gh 3)) (sC (gh 3))]) (by kernel_rfl) (by kernel_rfl) (fun _ _ c=>c) Tryz.underlying52 (zv:=.agg #[Vi 0,Vi 0,Vi 0,Ve,Ve,Vz]) (bytes:=80) (by kernel_rfl) (by kernel_rfl) (fun _=>by kernel_rfl) (fun _=>by constructor <;> (rw [hrl2,htl]; omega))) ?_
    trivial
   rintro u18 b13 v20 W14 S15 ⟨f18,f12,-⟩
   replace f18:IsArgs W14 y (.slice (sA u18) (sN u18) (sC u18)):=f18
   replace f12:Cells W14 b13 0 [Vi y.op,Vi y.k,Vi y.n,.string y.s,.string y.nm,.slice (sA u18) (sN u18) (sC u18)]:=f12
   refine pQ f12 ?_
   refine go0 6 [] [(22,Vi (IntKind.i64.wrap ((k:Int) + 1)),Vi ((k:Int) + 1))] ?_ (hc:=(And.intro (jJ (by omega) (by omega)) (trivial)))
   refine uQ [(2,Vp b2),(3,Vp b3),(9,.slice (some ⟨b8,o9,none⟩) len ca),(10,Vi (len:Int)),(11,Vi ((k:Int) + 1))] [.box b3 [Vi x.op,Vi x.k,Vi x.n,.string x.s,.string x.nm,.slice (sA v20) (sN v20) (sC v20)],.box b2 [Vi 0,Vi 0,Vi 0,Ve,Ve,Vz],.row (.slice (sA v20) (sN v20) (sC v20)) 54 6 ((sK (x.args.take k) vs)++[[Vi y.op,Vi y.k,Vi y.n,.string y.s,.string y.nm,.slice (sA u18) (sN u18) (sC u18)]])] [(b1,0,[Vi x.op,Vi x.k,Vi x.n,.string x.s,.string x.nm,.slice (some ⟨b8,o9,none⟩) len ca])] ?_
   exact dV (k + 1) (fun X q=>⟨W14,.slice (sA v20) (sN v20) (sC v20),vs++[.slice (sA u18) (sN u18) (sC u18)],q _ _ _ _ (fY (by rw [hsn,exRows_snoc hvl]; try rfl)),(S7.trans S15),by omega,by rw [hsn]; exact AllArgs.snoc f18 (hvs.sees S15)⟩) (by omega)
  ·skip
   have hta:x.args.take k=x.args:=by rw [← hke,← hL,List.take_length]
   rw [hta] at hvs ⊢
   refine g_form 2 (v:=v) (e:=54) (kk:=6) (l:=sK x.args vs) ?_; intro A2 c2 hE_v hc_v hm_v
   rw [hE_v]
   refine qQ (t:=decide ((k:Int) < (len:Int))) (decide_eq_false (by omega)) ?_
   refine go0 2 [] [] ?_
   refine vQ ?_
   refine go0 9 [.b 0 0,.b 1 0] [] ?_
   refine uQ [(2,Vp b2)] [.box b3 [Vi x.op,Vi x.k,Vi x.n,.string x.s,.string x.nm,.slice A2 ((sK x.args vs).length) c2],.box b2 [Vi x.op,Vi x.k,Vi x.n,.string x.s,.string x.nm,.slice A2 ((sK x.args vs).length) c2],.row (.slice A2 ((sK x.args vs).length) c2) 54 6 (sK x.args vs)] [(b1,0,[Vi x.op,Vi x.k,Vi x.n,.string x.s,.string x.nm,.slice A len ca])] ?_
   refine hQ.toJ [.agg #[Vi x.op,Vi x.k,Vi x.n,.string x.s,.string x.nm,.slice A2 ((sK x.args vs).length) c2]] [] (fun a w hJ=>?_) (ix:=[1])
   have fr:=hJ.j.rowOut0 (v:=.slice A2 ((sK x.args vs).length) c2) (e:=54) (k:=6) (l:=sK x.args vs) 2 (by kernel_rfl) rfl
   exact ⟨.slice A2 (sK x.args vs).length c2,rfl,IsArgs.mk fr (hvs.sees hJ.j.out)⟩
theorem copy_any (x:Ex) (v:Value) (h:Vw) (hx:IsArgs h x v) (hb:(szE x).1 < 1000000):C0 Tryz.prog 130 #[.agg #[.int .i64 x.op,.int .i64 x.k,.int .i64 x.n,.string x.s,.string x.nm,v]] h (fun r h'=>∃ u,r=.agg #[.int .i64 x.op,.int .i64 x.k,.int .i64 x.n,.string x.s,.string x.nm,.slice (sA u) (sN u) (sC u)]∧IsArgs h' x (.slice (sA u) (sN u) (sC u))):=copy_rec _ x v h (Nat.le_refl _) hx hb
end Go.Proofs.YtmoahpojchndiaaGreat
