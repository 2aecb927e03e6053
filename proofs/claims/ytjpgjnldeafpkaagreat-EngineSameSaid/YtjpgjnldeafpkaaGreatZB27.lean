/-
  Contracts of the generator's formulas: several arguments. The contract of the generator's formulas.
-/
import Derived.Test.YtjpgjnldeafpkaaGreatZB9
import Derived.Test.YtjpgjnldeafpkaaGreatZB22
import Derived.Test.YtjpgjnldeafpkaaGreatZB3
import Derived.Test.YtjpgjnldeafpkaaGreatZB19
import Derived.Test.YtjpgjnldeafpkaaGreatZB24
import Derived.Test.YtjpgjnldeafpkaaGreatZB26
import Derived.Laws.Concat
import Derived.Test.YtjpgjnldeafpkaaGreatZB10
import Derived.Test.YtjpgjnldeafpkaaGreatZB23
set_option maxRecDepth 100000
namespace Go.Proofs.YtjpgjnldeafpkaaGreat
open Go.RowKit
abbrev lV (l:List Int):List (List Value):=l.map (fun k=>[.int .i64 k])
def ExprC (l:List RawD) (fs:List Fd) (d:Nat):Prop :=
 ∀ (g:Nat) (sl:Value) (n:Nat) (kind:Int) (fv:Value) (m:List Nat) (h:Vw),RS h 4 sl (l.map RawD.cs)→n + bnd d < 100000→1≤kind→kind≤3→IsFds ⟨h.w,m⟩ fv fs→g∈m →
  C1 Tryz.prog 93 #[.pointer (some ⟨g,0,none⟩),.int .i64 kind,fv,.int .i64 (d:Int)] h g [sl,.int .i64 (n:Int)]
   (fun v cs' h'=>∃ u,v=.agg #[.int .i64 ((gJ l fs d kind n).1).op,.int .i64 ((gJ l fs d kind n).1).k,.int .i64 ((gJ l fs d kind n).1).n,.string ((gJ l fs d kind n).1).s,.string ((gJ l fs d kind n).1).nm,.slice (sA u) (sN u) (sC u)]∧cs'=[sl,.int .i64 (((gJ l fs d kind n).2:Nat):Int)]∧IsArgs h' (gJ l fs d kind n).1 (.slice (sA u) (sN u) (sC u)))
theorem many_any (l:List RawD) (fs:List Fd) (d:Nat) (hd:d < 1000) (IH:ExprC l fs d) (g:Nat) (sl:Value) (n:Nat) (op:Int) (ks:List Int) (kv fv:Value) (b4 b6 b7:Nat) (m:List Nat) (h:Vw) (hr:RS h 4 sl (l.map RawD.cs)) (hn:n + 3 * bnd d < 100000) (hks:ks.length≤3)
  (hk1:∀ k∈ks,1≤k∧k≤3) (hkv:RS h 1 kv (lV ks)) (hf:IsFds ⟨h.w,m⟩ fv fs) (hg:g∈m) (f4:Cells h b4 0 [.pointer (some ⟨g,0,none⟩)]) (f6:Cells h b6 0 [fv]) (f7:Cells h b7 0 [.int .i64 ((d + 1:Nat):Int)]) :
  C1 Tryz.prog 125 #[.int .i64 op,kv,.pointer (some ⟨b4,0,none⟩),.pointer (some ⟨b6,0,none⟩),.pointer (some ⟨b7,0,none⟩)] h g [sl,.int .i64 (n:Int)]
   (fun v cs' h'=>∃ u,v=.agg #[.int .i64 (opE op (dJ (gJ l fs d) ks n).1).op,.int .i64 (opE op (dJ (gJ l fs d) ks n).1).k,.int .i64 (opE op (dJ (gJ l fs d) ks n).1).n,.string (opE op (dJ (gJ l fs d) ks n).1).s,.string (opE op (dJ (gJ l fs d) ks n).1).nm,.slice (sA u) (sN u) (sC u)]∧cs'=[sl,.int .i64 (((dJ (gJ l fs d) ks n).2:Nat):Int)]∧IsArgs h' (opE op (dJ (gJ l fs d) ks n).1) (.slice (sA u) (sN u) (sC u))):=by
 obtain ⟨A,cap,rfl,hc1,hc2,-⟩:=hkv.form
 rw [List.length_map] at hc1 hkv ⊢
 have hm:∀ b∈[g],b∈m:=fun b hb=>by simp at hb; rw [hb]; exact hg
 generalize hL:ks.length=len at *
 refine mQ Tryz.func125 (c:=Tryz.f125.body.getD .skip) (N:=32) ?_
 intro hbx hbad Q hQ
 refine nQ (f4.sees (Sees.refl _)) ?_
 refine nQ (f6.sees (Sees.refl _)) ?_
 refine nQ (f7.sees (Sees.refl _)) ?_
 refine yQ 42 6 ?_
 refine go2 22 [.own,.own,.b 0 0] [] ?_
 intro b1 b2
 refine vQ [0,1,0,1,1] [.block 0,.seq [1,1,1]] (fun (k:Nat) X=>∃ (W3:Vw) (v:Value) (vs:List Value),X W3 [(2,Vp b4),(3,Vp b6),(4,Vp b7),(7,Vp b1),(8,Vp b2),(13,.slice A len cap),(14,Vi (len:Int)),(15,Vi (k:Int))] [.box b2 [Vi op,Vi 0,Vi 0,Ve,Ve,v],.box b1 [Vi 0,Vi 0,Vi 0,Ve,Ve,Vz],.row v 42 6 (rK (dJ (gJ l fs d) (ks.take k) n).1 vs),.box g [sl,Vi (((dJ (gJ l fs d) (ks.take k) n).2:Nat):Int)]] [(b7,0,[Vi ((d + 1:Nat):Int)]),(b6,0,[fv]),(b4,0,[Vp g])]∧Sees h W3∧(k≤len)∧(AllArgs W3 (dJ (gJ l fs d) (ks.take k) n).1 vs)) (fun k=>len - k) (0) (fun X q=>⟨h,(Vz),[],q _ _ _ _ ⟨rfl,by kernel_rfl⟩,Sees.refl _,Nat.zero_le _,by unfold dJ AllArgs; rfl⟩) ?_
 rintro k a w ⟨W3,v,vs,hJ,S4,hk,hvs⟩; refine zQ hJ ?_; clear hJ a w
 refine go0 6 [] [] ?_
 have hle:=manyE_le (genE_le l fs d) (ks.take k) n
 rcases (by omega:k < len∨len=k) with hlt | hke
 ·obtain ⟨kk,hkk⟩:∃ x,ks[k]?=some x:=⟨_,List.getElem?_eq_getElem (by omega)⟩
  have hki:(lV ks)[k]?=some [.int .i64 kk]:=by rw [List.getElem?_map,hkk]; rfl
  obtain ⟨q1,q2⟩:=hk1 kk (List.mem_of_getElem? hkk)
  have hms:=manyE_snoc (gJ l fs d) kk (ks.take k) n
  rw [← rY ks k kk hkk] at hms
  have hlt2:(ks.take k).length * bnd d≤2 * bnd d:=Nat.mul_le_mul_right _ (by rw [List.length_take]; omega)
  have hvl:=hvs.len
  have hxl:(dJ (gJ l fs d) (ks.take k) n).1.length≤k:=by
   have:∀ (one:Int→Nat→Ex × Nat) (l:List Int) (n:Nat),(dJ one l n).1.length=l.length:=by
    intro one l
    induction l with
    | nil=>intro n; rfl
    | cons x l ih=>intro n; show ((dJ one l (one x n).2).1.length + 1)=l.length + 1; rw [ih]
   rw [this,List.length_take]; omega
  generalize dJ (gJ l fs d) (ks.take k) n=p at *
  have hIH:=fun H m' hr' hf' hg'=>IH g sl p.2 kk fv m' H hr' (by omega) q1 q2 hf' hg'
  generalize gJ l fs d kk p.2=q at *
  have hrl:=sK hvl
  refine dV (t:=decide ((k:Int) < (len:Int))) (decide_eq_true (by omega)) ?_
  refine go0 6 [] [] ?_
  obtain ⟨b5,o6,rfl,-,c7⟩:=RS.row hkv (hki)
  refine nQ (c7.sees S4) ?_
  refine go0 5 [.ix b5 o6 len cap k,.f 0 0] [] ?_ (ho:=(And.intro (by first | omega | (simp; omega)) (trivial)))
  refine aV 12 0 [.pu,.ld 0 5,.lf 3 0,.pu,.lf 2 0,.lf 1 0,.v (fun gh=>Vi (d:Int)),.ef (fun gh=>.agg #[Vi q.1.op,Vi q.1.k,Vi q.1.n,.string q.1.s,.string q.1.nm,.slice (sA (gh 7)) (sN (gh 7)) (sC (gh 7))]) 3 (fun gh=>.box g [sl,Vi ((q.2:Nat):Int)]) (fun gh hh=>IsArgs hh q.1 (.slice (sA (gh 7)) (sN (gh 7)) (sC (gh 7)))),.f (fun gh=>.slice (some ⟨(vJ (gh 8)),0,none⟩) 1 1) (fun gh hh=>Cells hh (vJ (gh 8)) 0 [Vi q.1.op,Vi q.1.k,Vi q.1.n,.string q.1.s,.string q.1.nm,.slice (sA (gh 7)) (sN (gh 7)) (sC (gh 7))]),.e (fun gh=>.slice (sA (gh 9)) (sN (gh 9)) (sC (gh 9))) 2 (fun gh=>.row (.slice (sA (gh 9)) (sN (gh 9)) (sC (gh 9))) 42 6 ((rK (p).1 vs)++[[Vi q.1.op,Vi q.1.k,Vi q.1.n,.string q.1.s,.string q.1.nm,.slice (sA (gh 7)) (sN (gh 7)) (sC (gh 7))]])),.pu,.st 0 5] [(7,false),(8,true),(9,false)] (And.intro (fun _ _ _ s c=>c.sees s) (And.intro (fun _ _ _ s c=>c.sees s) (trivial))) ?_ ?_
  ·intro R hT hA hmono
   refine And.intro (pY hT hA (fun gh=>Vi (d:Int)) (fun gh=>Vi (IntKind.i64.wrap (((d + 1:Nat):Int) - 1))) (fun gh=>dec_wrap d (by omega))) ?_
   refine And.intro (r_call1 hT hA hmono ⟨fun _ _=>by kernel_rfl,fun _ _=>by kernel_rfl,fun _ _=>by kernel_rfl⟩ 26 (fun u=>.agg #[Vi q.1.op,Vi q.1.k,Vi q.1.n,.string q.1.s,.string q.1.nm,.slice (sA u) (sN u) (sC u)]) [2,3,4,6] 7 (by kernel_rfl) (fun _=>by kernel_rfl) 3 (GN R 3) (by kernel_rfl) (by kernel_rfl) (by kernel_rfl) g (fun gh=>[sl,Vi (((p).2:Nat):Int)]) (fun gh=>[sl,Vi ((q.2:Nat):Int)]) (fun _=>by kernel_rfl) (fun _=>by kernel_rfl) 93 (fun gh=>#[Vp g,Vi kk,fv,Vi (d:Int)]) (fun _ _=>by kernel_rfl) (fun gh H sH fH lent=>C1.facts (R:=R) (x:=gh) (N':=fun gh=>[sl,Vi ((q.2:Nat):Int)]) (i:=7) (n:=0) (F:=(fun u=>.agg #[Vi q.1.op,Vi q.1.k,Vi q.1.n,.string q.1.s,.string q.1.nm,.slice (sA u) (sN u) (sC u)])) (N:=fun u=>[sl,Vi ((q.2:Nat):Int)]) (G:=fun u hh=>IsArgs hh q.1 (.slice (sA u) (sN u) (sC u))) (f:=fun gh hh=>IsArgs hh q.1 (.slice (sA (gh 7)) (sN (gh 7)) (sC (gh 7)))) (by obtain ⟨m',hgm,sm⟩:=lent m hm; exact hIH H m' (hr.sees (S4.trans sH)) (hf.sees sm) hgm) (by kernel_rfl) (by kernel_rfl) (fun _=>by kernel_rfl) (fun _ _ r=>r))) ?_
   refine And.intro (r_fact hT hA hmono ⟨fun _ _=>by kernel_rfl,fun _ _=>by kernel_rfl,fun _ _=>by kernel_rfl⟩ 27 (fun g=>Vs g 1 1) [7] 8 (by kernel_rfl) (by kernel_rfl) (fun _=>by kernel_rfl) (fun gh=>[Vi q.1.op,Vi q.1.k,Vi q.1.n,.string q.1.s,.string q.1.nm,.slice (sA (gh 7)) (sN (gh 7)) (sC (gh 7))]) 42 (fun _ _=>by kernel_rfl) (fun gh zb zH zc zj zq zhq zhe=>own_fact (i:=8) (k:=1) (f:=fun gh hh=>Cells hh (vJ (gh 8)) 0 [Vi q.1.op,Vi q.1.k,Vi q.1.n,.string q.1.s,.string q.1.nm,.slice (sA (gh 7)) (sN (gh 7)) (sC (gh 7))]) (by kernel_rfl) (by kernel_rfl) zc zj zq zhq zhe)) ?_
   refine And.intro (r_append hT hA hmono ⟨fun _ _=>by kernel_rfl,fun _ _=>by kernel_rfl,fun _ _=>by kernel_rfl⟩ (by kernel_rfl) 28 [1,7,8] 9 (by kernel_rfl) (fun _=>by kernel_rfl) 2 (GN R 2) (by kernel_rfl) (by kernel_rfl) (by kernel_rfl) (fun gh=>v) 40 42 6 (fun gh=>rK (p).1 vs) (fun gh=>[[Vi q.1.op,Vi q.1.k,Vi q.1.n,.string q.1.s,.string q.1.nm,.slice (sA (gh 7)) (sN (gh 7)) (sC (gh 7))]]) (fun _=>by kernel_rfl) (fun _=>by kernel_rfl) (fun _ _=>by kernel_rfl) (.tmp 20) (.tmp 27) (by kernel_rfl) (by kernel_rfl) (fun gh=>(vJ (gh 8))) 1 1 (fun _=>by kernel_rfl) (fun _=>by kernel_rfl) 1 8 (fun gh hh=>Cells hh (vJ (gh 8)) 0 [Vi q.1.op,Vi q.1.k,Vi q.1.n,.string q.1.s,.string q.1.nm,.slice (sA (gh 7)) (sN (gh 7)) (sC (gh 7))]) (by kernel_rfl) (by kernel_rfl) (fun _ _ c=>c) Tryz.underlying40 (zv:=.agg #[Vi 0,Vi 0,Vi 0,Ve,Ve,Vz]) (bytes:=80) (by kernel_rfl) (by kernel_rfl) (fun _=>by kernel_rfl) (fun _=>by constructor <;> (rw [hrl]; omega))) ?_
   trivial
  rintro u26 b9 v28 W10 S11 ⟨f26,f8,-⟩
  replace f26:IsArgs W10 q.1 (.slice (sA u26) (sN u26) (sC u26)):=f26
  replace f8:Cells W10 b9 0 [Vi q.1.op,Vi q.1.k,Vi q.1.n,.string q.1.s,.string q.1.nm,.slice (sA u26) (sN u26) (sC u26)]:=f8
  refine nQ f8 ?_
  refine go0 6 [] [(30,Vi (IntKind.i64.wrap ((k:Int) + 1)),Vi ((k:Int) + 1))] ?_ (hc:=(And.intro (jJ (by omega) (by omega)) (trivial)))
  refine tQ [(2,Vp b4),(3,Vp b6),(4,Vp b7),(7,Vp b1),(8,Vp b2),(13,.slice (some ⟨b5,o6,none⟩) len cap),(14,Vi (len:Int)),(15,Vi ((k:Int) + 1))] [.box b2 [Vi op,Vi 0,Vi 0,Ve,Ve,.slice (sA v28) (sN v28) (sC v28)],.box b1 [Vi 0,Vi 0,Vi 0,Ve,Ve,Vz],.row (.slice (sA v28) (sN v28) (sC v28)) 42 6 ((rK (p).1 vs)++[[Vi q.1.op,Vi q.1.k,Vi q.1.n,.string q.1.s,.string q.1.nm,.slice (sA u26) (sN u26) (sC u26)]]),.box g [sl,Vi ((q.2:Nat):Int)]] [(b7,0,[Vi ((d + 1:Nat):Int)]),(b6,0,[fv]),(b4,0,[Vp g])] ?_
  exact cV (k + 1) (fun X q=>⟨W10,.slice (sA v28) (sN v28) (sC v28),vs++[.slice (sA u26) (sN u26) (sC u26)],q _ _ _ _ (aY (by rw [hms,exRows_snoc hvl])),(S4.trans S11),by omega,by rw [hms]; exact AllArgs.snoc f26 (hvs.sees S11)⟩) (by omega)
 ·skip
  have htk:ks.take k=ks:=by rw [← hke,← hL,List.take_length]
  rw [htk] at hvs ⊢
  refine pQ 2 (v:=v) (e:=42) (kk:=6) (l:=rK (dJ (gJ l fs d) ks n).1 vs) ?_; intro A2 c2 hE_v hc_v hm_v
  rw [hE_v]
  refine oQ (t:=decide ((k:Int) < (len:Int))) (decide_eq_false (by omega)) ?_
  refine go0 2 [] [] ?_
  refine uQ ?_
  refine go0 9 [.b 0 0,.b 1 0] [] ?_
  refine tQ [(7,Vp b1)] [.box b2 [Vi op,Vi 0,Vi 0,Ve,Ve,.slice A2 ((rK (dJ (gJ l fs d) ks n).1 vs).length) c2],.box b1 [Vi op,Vi 0,Vi 0,Ve,Ve,.slice A2 ((rK (dJ (gJ l fs d) ks n).1 vs).length) c2],.row (.slice A2 ((rK (dJ (gJ l fs d) ks n).1 vs).length) c2) 42 6 (rK (dJ (gJ l fs d) ks n).1 vs),.box g [sl,Vi (((dJ (gJ l fs d) ks n).2:Nat):Int)]] [(b7,0,[Vi ((d + 1:Nat):Int)]),(b6,0,[fv]),(b4,0,[Vp g])] ?_
  refine hQ.toJ [.agg #[Vi op,Vi 0,Vi 0,Ve,Ve,.slice A2 ((rK (dJ (gJ l fs d) ks n).1 vs).length) c2]] [[sl,Vi (((dJ (gJ l fs d) ks n).2:Nat):Int)]] (fun a w hJ=>?_) (ix:=[1])
  have fr:=hJ.j.rowOut1 (v:=.slice A2 ((rK (dJ (gJ l fs d) ks n).1 vs).length) c2) (e:=42) (k:=6) (l:=rK (dJ (gJ l fs d) ks n).1 vs) (g:=g) (cs:=[sl,Vi (((dJ (gJ l fs d) ks n).2:Nat):Int)]) 2 3 (by kernel_rfl) (by kernel_rfl) (by kernel_rfl) rfl
  exact ⟨_,rfl,.slice A2 (rK (dJ (gJ l fs d) ks n).1 vs).length c2,rfl,rfl,IsArgs.mk (x:=opE op (dJ (gJ l fs d) ks n).1) fr (hvs.sees hJ.j.out)⟩
end Go.Proofs.YtjpgjnldeafpkaaGreat
namespace Go.Proofs.YtjpgjnldeafpkaaGreat
open Go.RowKit
theorem genE_leaf {l:List RawD} {fs:List Fd} {d:Nat} {kind:Int} {n:Nat} (h:cJ (aJ l n).k 3=0):gJ l fs (d + 1) kind n=(rV (aJ l (bJ l n)) fs kind,bJ l (bJ l n)):=by
 show (if _ then _ else _)=_
 rw [if_pos h]
theorem eV {l:List RawD} {fs:List Fd} {d:Nat} {kind op:Int} {ks:List Int} {n:Nat} (h:cJ (aJ l n).k 3≠0) (hp:xW (aJ l n) kind=(op,ks)):gJ l fs (d + 1) kind n=(opE op (dJ (gJ l fs d) ks (bJ l n)).1,(dJ (gJ l fs d) ks (bJ l n)).2):=by
 show (if _ then _ else _)=_
 rw [if_neg h,hp]
theorem sX {h:Vw} {b:Nat} (ks:List Int) (hm:ks.length≤maxLen) (c:Cells h b 0 (lV ks).flatten):RS h 1 (.slice (some ⟨b,0,none⟩) ks.length ks.length) (lV ks):=by
 have:=rs_cells (k:=1) (lV ks) (fun r hr=>by obtain ⟨x,-,rfl⟩:=List.mem_map.1 hr; rfl) (by simpa using hm) c
 simpa using this
theorem tK {h:Vw} {sl:Value} {p q:Ex × Nat} (e:p=q) {u:Value} {v:Value} {cs:List Value} (hv:v=.agg #[.int .i64 q.1.op,.int .i64 q.1.k,.int .i64 q.1.n,.string q.1.s,.string q.1.nm,.slice (sA u) (sN u) (sC u)]) (hc:cs=[sl,.int .i64 ((q.2:Nat):Int)]) (ha:IsArgs h q.1 (.slice (sA u) (sN u) (sC u))) :
  ∃ cs',[cs]=[cs']∧∃ u,v=.agg #[.int .i64 p.1.op,.int .i64 p.1.k,.int .i64 p.1.n,.string p.1.s,.string p.1.nm,.slice (sA u) (sN u) (sC u)]∧cs'=[sl,.int .i64 ((p.2:Nat):Int)]∧IsArgs h p.1 (.slice (sA u) (sN u) (sC u)):=by
 subst e
 exact ⟨cs,rfl,u,hv,hc,ha⟩
theorem leaf_args (r:RawD) (fs:List Fd) (kind:Int):(rV r fs kind).args=[]:=by
 unfold rV
 repeat' split
 all_goals rfl
theorem expr_zero (l:List RawD) (fs:List Fd) (hlen:l.length * 40≤reachBytes) (hok:∀ r∈l,r.ok) (hfs:fs.length≤100):ExprC l fs 0:=by
 intro g sl n kind fv m h hr hn h1 h3 hf hg
 have hm:∀ b∈[g],b∈m:=fun b hb=>by simp at hb; rw [hb]; exact hg
 obtain ⟨A,nf,cap,rfl⟩:∃ A nf cap,fv=.slice A nf cap:=by obtain ⟨vs,hrs,-⟩:=hf; obtain ⟨A,c,e,-⟩:=hrs.form; exact ⟨A,_,c,e⟩
 have hat:=uJ l n
 have hb:bnd 0=2:=rfl
 refine mQ Tryz.func93 (c:=Tryz.f93.body.getD .skip) (N:=98) ?_
 intro hbx hbad Q hQ
 refine gov3 5 [.fix,.fix,.fix] [] ?_
 intro b1 b2 b3 W4 S5
 refine go1 6 [.own,.f 2 0] [] ?_
 intro b6
 refine g_call1 1 (fun H sH=>fV g l sl n _ (hr.sees (S5.trans sH)) (by omega) hlen) ?_; rintro _ _ W7 S8 ⟨rfl,rfl⟩
 refine go1 23 [.own,.b 0 0,.f 0 0,.f 2 0,.f 1 0] [(17,.bool (decide (((0:Nat):Int)≤0)),.bool true)] ?_ (hc:=(And.intro (rfl) (trivial)))
 intro b9
 refine kQ 2 (fun a w hJ=>leaf_any g l sl (bJ l n) kind fs _ _ _ (hr.sees (S5.trans (S8.trans hJ.j.sees))) (by omega) hlen hok h1 h3 (hf.sees (hJ.j.lent hm)) hfs (List.mem_append_right _ hg)) ?_; rintro _ _ W10 S11 ⟨rfl,rfl⟩
 refine go0 5 [.b 1 0] [] ?_
 refine hQ.toB [.agg #[Vi ((rV (aJ l (bJ l n)) fs kind).op),Vi ((rV (aJ l (bJ l n)) fs kind).k),Vi ((rV (aJ l (bJ l n)) fs kind).n),.string ((rV (aJ l (bJ l n)) fs kind).s),.string ((rV (aJ l (bJ l n)) fs kind).nm),Vz]] [[sl,Vi ((bJ l (bJ l n):Nat):Int)]] (fun H sH=>?_) (ix:=[1])
 exact tK (u:=Vz) (show gJ l fs 0 kind n=_ from rfl) rfl rfl (args_nil _ _ (leaf_args _ _ _))
set_option maxHeartbeats 4000000 in
theorem expr_succ (l : List RawD) (fs : List Fd) (hlen : l.length * 40 ≤ reachBytes) (hok : ∀ r ∈ l, r.ok) (hfs : fs.length ≤ 100) (d : Nat) (hd : d < 1000) (IH : ExprC l fs d) : ExprC l fs (d + 1) := by
  intro g sl n kind fv m h hr hn h1 h3 hf hg
  have hm : ∀ b ∈ [g], b ∈ m := fun b hb => by simp at hb; rw [hb]; exact hg
  obtain ⟨A, nf, cap, rfl⟩ : ∃ A nf cap, fv = .slice A nf cap := by obtain ⟨vs, hrs, -⟩ := hf; obtain ⟨A, c, e, -⟩ := hrs.form; exact ⟨A, _, c, e⟩
  have hat := uJ l n
  have hbd : bnd (d + 1) = 1 + 3 * bnd d := rfl
  have hb2 : 2 ≤ bnd d := by
    cases d with
    | zero => exact Nat.le_refl _
    | succ d => show 2 ≤ 1 + 3 * bnd d; have : 1 ≤ bnd d := by cases d with | zero => decide | succ d => show 1 ≤ 1 + _; omega
                omega
  obtain ⟨⟨k0, k1⟩, ⟨a0, a1⟩, ⟨rb0, rb1⟩, -⟩ := rawAt_ok hok n
  have hd0 : decide (((d + 1 : Nat) : Int) ≤ 0) = false := decide_eq_false (by omega)
  have many := many_any l fs d hd IH g sl (bJ l n)
  have hq7 := dX (aJ l n).b 7 (by omega)
  have hq3 := dX (aJ l n).a 3 (by omega)
  have pa3 := yJ (aJ l n).a 3
  have pb7 := yJ (aJ l n).b 7
  refine mQ Tryz.func93 (c := Tryz.f93.body.getD .skip) (N := 98) ?_
  intro hbx hbad Q hQ
  refine gov3 5 [.fix, .fix, .fix] [] ?_
  intro bf4 bf8 bf12 W1 S2
  refine lQ 2 bf4 0 [Vp g] fun f4 => ?_
  refine lQ 1 bf8 0 [.slice A nf cap] fun f8 => ?_
  refine lQ 0 bf12 0 [Vi ((d + 1 : Nat) : Int)] fun f12 => ?_
  refine go1 6 [.own, .f 2 0] [] ?_
  intro b3
  refine g_call1 1 (fun H sH => fV g l sl n _ (hr.sees (S2.trans sH)) (by omega) hlen) ?_; rintro _ _ W4 S5 ⟨rfl, rfl⟩
  refine go1 17 [.own, .b 0 0, .f 0 0, .b 0 0, .cl 24 #[Vi ((aJ l n).k), Vi 3] (Vi (cJ (aJ l n).k 3))] [(17, .bool (decide (((d + 1 : Nat) : Int) ≤ 0)), .bool false)] ?_ (ho := (And.intro (fun H sH => yJ _ 3 _ k0 k1 (by omega) (by omega)) (trivial))) (hc := (And.intro (congrArg Value.bool hd0) (trivial)))
  intro b6
  by_cases q3 : cJ (aJ l n).k 3 = 0
  · refine dV (t := (cJ (aJ l n).k 3) == 0) (beq_iff_eq.2 q3) ?_
    refine go0 5 [.f 2 0, .f 1 0] [] ?_
    refine kQ 2 (fun a w hJ => leaf_any g l sl (bJ l n) kind fs _ _ _ (hr.sees (S2.trans (S5.trans hJ.j.sees))) (by omega) hlen hok h1 h3 (hf.sees (hJ.j.lent hm)) hfs (List.mem_append_right _ hg)) ?_; rintro _ _ W7 S8 ⟨rfl, rfl⟩
    refine go0 5 [.b 1 0] [] ?_
    refine hQ.toB [.agg #[Vi ((rV (aJ l (bJ l n)) fs kind).op), Vi ((rV (aJ l (bJ l n)) fs kind).k), Vi ((rV (aJ l (bJ l n)) fs kind).n), .string ((rV (aJ l (bJ l n)) fs kind).s), .string ((rV (aJ l (bJ l n)) fs kind).nm), Vz]] [[sl, Vi ((bJ l (bJ l n) : Nat) : Int)]] (fun H sH => ?_) (ix := [1])
    exact tK (u := Vz) (genE_leaf q3) rfl rfl (args_nil _ _ (leaf_args _ _ _))
  · skip
    refine oQ (t := (cJ (aJ l n).k 3) == 0) (beq_eq_false_iff_ne.2 q3) ?_
    refine go0 17 [.b 0 1, .cl 24 #[Vi ((aJ l n).a), Vi 6] (Vi (cJ (aJ l n).a 6))] [] ?_ (ho := (And.intro (fun H sH => yJ _ 6 _ a0 a1 (by omega) (by omega)) (trivial)))
    obtain rfl | rfl | rfl : kind = 1 ∨ kind = 2 ∨ kind = 3 := by omega
    · skip
      by_cases q6 : cJ (aJ l n).a 6 = 0
      · refine dV (t := (cJ (aJ l n).a 6) == 0) (beq_iff_eq.2 q6) ?_
        refine jV 6 [.fix] [] ?_
        intro bfk W9 S10
        refine lQ 0 bfk 0 [Vi 2, Vi 1, Vi 1] fun fk => ?_
        refine kQ 2 (fun a w hJ => many 17 [2, 1, 1] _ _ _ _ _ _ _ (hr.sees (S2.trans (S5.trans (S10.trans hJ.j.sees)))) (by omega) (by simp) (by simp <;> omega) (sX [2, 1, 1] (by unfold maxLen; simp) (fk.sees hJ.j.sees)) (hf.sees (hJ.j.lent hm)) (List.mem_append_right _ hg) (f4.sees (S5.trans (S10.trans hJ.j.sees))) (f8.sees (S5.trans (S10.trans hJ.j.sees))) (f12.sees (S5.trans (S10.trans hJ.j.sees)))) ?_; rintro _ _ W11 S12 ⟨u, rfl, rfl, fu⟩
        refine go0 5 [.b 1 0] [] ?_
        refine hQ.toB [.agg #[Vi ((opE 17 (dJ (gJ l fs d) [2, 1, 1] (bJ l n)).1).op), Vi ((opE 17 (dJ (gJ l fs d) [2, 1, 1] (bJ l n)).1).k), Vi ((opE 17 (dJ (gJ l fs d) [2, 1, 1] (bJ l n)).1).n), .string ((opE 17 (dJ (gJ l fs d) [2, 1, 1] (bJ l n)).1).s), .string ((opE 17 (dJ (gJ l fs d) [2, 1, 1] (bJ l n)).1).nm), .slice (sA u) (sN u) (sC u)]] [[sl, Vi (((dJ (gJ l fs d) [2, 1, 1] (bJ l n)).2 : Nat) : Int)]] (fun H sH => ?_) (ix := [1])
        exact tK (eV q3 (by unfold xW; rw [if_pos q6])) rfl rfl (fu.sees sH)
      · skip
        obtain q7 | q7 | q7 | q7 | q7 | q7 | q7 : cJ (aJ l n).b 7 = 0 ∨ cJ (aJ l n).b 7 = 1 ∨ cJ (aJ l n).b 7 = 2 ∨ cJ (aJ l n).b 7 = 3 ∨ cJ (aJ l n).b 7 = 4 ∨ cJ (aJ l n).b 7 = 5 ∨ cJ (aJ l n).b 7 = 6 := by omega
        · skip
          rw [q7] at pb7
          refine oQ (t := (cJ (aJ l n).a 6) == 0) (beq_eq_false_iff_ne.2 q6) ?_
          refine jV 41 [.b 0 2, .cl 24 #[Vi ((aJ l n).b), Vi 7] (Vi 0), .fix] [] ?_ (ho := (And.intro (fun H sH => pb7 _ rb0 rb1 (by omega) (by omega)) (trivial)))
          intro bfk W13 S14
          refine lQ 0 bfk 0 [Vi 1] fun fk => ?_
          refine kQ 2 (fun a w hJ => many 3 [1] _ _ _ _ _ _ _ (hr.sees (S2.trans (S5.trans (S14.trans hJ.j.sees)))) (by omega) (by simp) (by simp <;> omega) (sX [1] (by unfold maxLen; simp) (fk.sees hJ.j.sees)) (hf.sees (hJ.j.lent hm)) (List.mem_append_right _ hg) (f4.sees (S5.trans (S14.trans hJ.j.sees))) (f8.sees (S5.trans (S14.trans hJ.j.sees))) (f12.sees (S5.trans (S14.trans hJ.j.sees)))) ?_; rintro _ _ W15 S16 ⟨u, rfl, rfl, fu⟩
          refine go0 7 [.b 1 0] [] ?_
          refine hQ.toB [.agg #[Vi ((opE 3 (dJ (gJ l fs d) [1] (bJ l n)).1).op), Vi ((opE 3 (dJ (gJ l fs d) [1] (bJ l n)).1).k), Vi ((opE 3 (dJ (gJ l fs d) [1] (bJ l n)).1).n), .string ((opE 3 (dJ (gJ l fs d) [1] (bJ l n)).1).s), .string ((opE 3 (dJ (gJ l fs d) [1] (bJ l n)).1).nm), .slice (sA u) (sN u) (sC u)]] [[sl, Vi (((dJ (gJ l fs d) [1] (bJ l n)).2 : Nat) : Int)]] (fun H sH => ?_) (ix := [1])
          exact tK (eV q3 (by unfold xW; rw [if_neg q6, q7]; rfl)) rfl rfl (fu.sees sH)
        · skip
          rw [q7] at pb7
          refine oQ (t := (cJ (aJ l n).a 6) == 0) (beq_eq_false_iff_ne.2 q6) ?_
          refine jV 48 [.b 0 2, .cl 24 #[Vi ((aJ l n).b), Vi 7] (Vi 1), .fix] [] ?_ (ho := (And.intro (fun H sH => pb7 _ rb0 rb1 (by omega) (by omega)) (trivial)))
          intro bfk W17 S18
          refine lQ 0 bfk 0 [Vi 3] fun fk => ?_
          refine kQ 2 (fun a w hJ => many 18 [3] _ _ _ _ _ _ _ (hr.sees (S2.trans (S5.trans (S18.trans hJ.j.sees)))) (by omega) (by simp) (by simp <;> omega) (sX [3] (by unfold maxLen; simp) (fk.sees hJ.j.sees)) (hf.sees (hJ.j.lent hm)) (List.mem_append_right _ hg) (f4.sees (S5.trans (S18.trans hJ.j.sees))) (f8.sees (S5.trans (S18.trans hJ.j.sees))) (f12.sees (S5.trans (S18.trans hJ.j.sees)))) ?_; rintro _ _ W19 S20 ⟨u, rfl, rfl, fu⟩
          refine go0 7 [.b 1 0] [] ?_
          refine hQ.toB [.agg #[Vi ((opE 18 (dJ (gJ l fs d) [3] (bJ l n)).1).op), Vi ((opE 18 (dJ (gJ l fs d) [3] (bJ l n)).1).k), Vi ((opE 18 (dJ (gJ l fs d) [3] (bJ l n)).1).n), .string ((opE 18 (dJ (gJ l fs d) [3] (bJ l n)).1).s), .string ((opE 18 (dJ (gJ l fs d) [3] (bJ l n)).1).nm), .slice (sA u) (sN u) (sC u)]] [[sl, Vi (((dJ (gJ l fs d) [3] (bJ l n)).2 : Nat) : Int)]] (fun H sH => ?_) (ix := [1])
          exact tK (eV q3 (by unfold xW; rw [if_neg q6, q7]; rfl)) rfl rfl (fu.sees sH)
        · skip
          rw [q7] at pb7
          refine oQ (t := (cJ (aJ l n).a 6) == 0) (beq_eq_false_iff_ne.2 q6) ?_
          refine gov2 53 [.b 0 2, .cl 24 #[Vi ((aJ l n).b), Vi 7] (Vi 2), .fix, .pu, .f 0 0, .fix] [] ?_ (ho := (And.intro (fun H sH => pb7 _ rb0 rb1 (by omega) (by omega)) (trivial)))
          intro b21 bfk W22 S23
          refine lQ 0 bfk 0 [Vi 1, Vi 1] fun fk => ?_
          refine kQ 2 (fun a w hJ => many 5 [1, 1] _ _ _ _ _ _ _ (hr.sees (S2.trans (S5.trans (S23.trans hJ.j.sees)))) (by omega) (by simp) (by simp <;> omega) (sX [1, 1] (by unfold maxLen; simp) (fk.sees hJ.j.sees)) (hf.sees (hJ.j.lent hm)) (List.mem_append_right _ hg) (f4.sees (S5.trans (S23.trans hJ.j.sees))) (f8.sees (S5.trans (S23.trans hJ.j.sees))) (f12.sees (S5.trans (S23.trans hJ.j.sees)))) ?_; rintro _ _ W24 S25 ⟨u, rfl, rfl, fu⟩
          refine go0 7 [.b 1 0] [] ?_
          refine hQ.toB [.agg #[Vi ((opE 5 (dJ (gJ l fs d) [1, 1] (bJ l n)).1).op), Vi ((opE 5 (dJ (gJ l fs d) [1, 1] (bJ l n)).1).k), Vi ((opE 5 (dJ (gJ l fs d) [1, 1] (bJ l n)).1).n), .string ((opE 5 (dJ (gJ l fs d) [1, 1] (bJ l n)).1).s), .string ((opE 5 (dJ (gJ l fs d) [1, 1] (bJ l n)).1).nm), .slice (sA u) (sN u) (sC u)]] [[sl, Vi (((dJ (gJ l fs d) [1, 1] (bJ l n)).2 : Nat) : Int)]] (fun H sH => ?_) (ix := [1])
          exact tK (eV q3 (by unfold xW; rw [if_neg q6, q7]; rfl)) rfl rfl (fu.sees sH)
        · skip
          rw [q7] at pb7
          refine oQ (t := (cJ (aJ l n).a 6) == 0) (beq_eq_false_iff_ne.2 q6) ?_
          refine gov2 53 [.b 0 2, .cl 24 #[Vi ((aJ l n).b), Vi 7] (Vi 3), .fix, .pu, .f 0 1, .fix] [] ?_ (ho := (And.intro (fun H sH => pb7 _ rb0 rb1 (by omega) (by omega)) (trivial)))
          intro b26 bfk W27 S28
          refine lQ 0 bfk 0 [Vi 1, Vi 1] fun fk => ?_
          refine kQ 2 (fun a w hJ => many 6 [1, 1] _ _ _ _ _ _ _ (hr.sees (S2.trans (S5.trans (S28.trans hJ.j.sees)))) (by omega) (by simp) (by simp <;> omega) (sX [1, 1] (by unfold maxLen; simp) (fk.sees hJ.j.sees)) (hf.sees (hJ.j.lent hm)) (List.mem_append_right _ hg) (f4.sees (S5.trans (S28.trans hJ.j.sees))) (f8.sees (S5.trans (S28.trans hJ.j.sees))) (f12.sees (S5.trans (S28.trans hJ.j.sees)))) ?_; rintro _ _ W29 S30 ⟨u, rfl, rfl, fu⟩
          refine go0 7 [.b 1 0] [] ?_
          refine hQ.toB [.agg #[Vi ((opE 6 (dJ (gJ l fs d) [1, 1] (bJ l n)).1).op), Vi ((opE 6 (dJ (gJ l fs d) [1, 1] (bJ l n)).1).k), Vi ((opE 6 (dJ (gJ l fs d) [1, 1] (bJ l n)).1).n), .string ((opE 6 (dJ (gJ l fs d) [1, 1] (bJ l n)).1).s), .string ((opE 6 (dJ (gJ l fs d) [1, 1] (bJ l n)).1).nm), .slice (sA u) (sN u) (sC u)]] [[sl, Vi (((dJ (gJ l fs d) [1, 1] (bJ l n)).2 : Nat) : Int)]] (fun H sH => ?_) (ix := [1])
          exact tK (eV q3 (by unfold xW; rw [if_neg q6, q7]; rfl)) rfl rfl (fu.sees sH)
        · skip
          rw [q7] at pb7
          refine oQ (t := (cJ (aJ l n).a 6) == 0) (beq_eq_false_iff_ne.2 q6) ?_
          refine gov2 53 [.b 0 2, .cl 24 #[Vi ((aJ l n).b), Vi 7] (Vi 4), .fix, .pu, .f 0 2, .fix] [] ?_ (ho := (And.intro (fun H sH => pb7 _ rb0 rb1 (by omega) (by omega)) (trivial)))
          intro b31 bfk W32 S33
          refine lQ 0 bfk 0 [Vi 1, Vi 1] fun fk => ?_
          refine kQ 2 (fun a w hJ => many 7 [1, 1] _ _ _ _ _ _ _ (hr.sees (S2.trans (S5.trans (S33.trans hJ.j.sees)))) (by omega) (by simp) (by simp <;> omega) (sX [1, 1] (by unfold maxLen; simp) (fk.sees hJ.j.sees)) (hf.sees (hJ.j.lent hm)) (List.mem_append_right _ hg) (f4.sees (S5.trans (S33.trans hJ.j.sees))) (f8.sees (S5.trans (S33.trans hJ.j.sees))) (f12.sees (S5.trans (S33.trans hJ.j.sees)))) ?_; rintro _ _ W34 S35 ⟨u, rfl, rfl, fu⟩
          refine go0 7 [.b 1 0] [] ?_
          refine hQ.toB [.agg #[Vi ((opE 7 (dJ (gJ l fs d) [1, 1] (bJ l n)).1).op), Vi ((opE 7 (dJ (gJ l fs d) [1, 1] (bJ l n)).1).k), Vi ((opE 7 (dJ (gJ l fs d) [1, 1] (bJ l n)).1).n), .string ((opE 7 (dJ (gJ l fs d) [1, 1] (bJ l n)).1).s), .string ((opE 7 (dJ (gJ l fs d) [1, 1] (bJ l n)).1).nm), .slice (sA u) (sN u) (sC u)]] [[sl, Vi (((dJ (gJ l fs d) [1, 1] (bJ l n)).2 : Nat) : Int)]] (fun H sH => ?_) (ix := [1])
          exact tK (eV q3 (by unfold xW; rw [if_neg q6, q7]; rfl)) rfl rfl (fu.sees sH)
        · skip
          rw [q7] at pb7
          refine oQ (t := (cJ (aJ l n).a 6) == 0) (beq_eq_false_iff_ne.2 q6) ?_
          refine gov2 53 [.b 0 2, .cl 24 #[Vi ((aJ l n).b), Vi 7] (Vi 5), .fix, .pu, .f 0 3, .fix] [] ?_ (ho := (And.intro (fun H sH => pb7 _ rb0 rb1 (by omega) (by omega)) (trivial)))
          intro b36 bfk W37 S38
          refine lQ 0 bfk 0 [Vi 1, Vi 1] fun fk => ?_
          refine kQ 2 (fun a w hJ => many 8 [1, 1] _ _ _ _ _ _ _ (hr.sees (S2.trans (S5.trans (S38.trans hJ.j.sees)))) (by omega) (by simp) (by simp <;> omega) (sX [1, 1] (by unfold maxLen; simp) (fk.sees hJ.j.sees)) (hf.sees (hJ.j.lent hm)) (List.mem_append_right _ hg) (f4.sees (S5.trans (S38.trans hJ.j.sees))) (f8.sees (S5.trans (S38.trans hJ.j.sees))) (f12.sees (S5.trans (S38.trans hJ.j.sees)))) ?_; rintro _ _ W39 S40 ⟨u, rfl, rfl, fu⟩
          refine go0 7 [.b 1 0] [] ?_
          refine hQ.toB [.agg #[Vi ((opE 8 (dJ (gJ l fs d) [1, 1] (bJ l n)).1).op), Vi ((opE 8 (dJ (gJ l fs d) [1, 1] (bJ l n)).1).k), Vi ((opE 8 (dJ (gJ l fs d) [1, 1] (bJ l n)).1).n), .string ((opE 8 (dJ (gJ l fs d) [1, 1] (bJ l n)).1).s), .string ((opE 8 (dJ (gJ l fs d) [1, 1] (bJ l n)).1).nm), .slice (sA u) (sN u) (sC u)]] [[sl, Vi (((dJ (gJ l fs d) [1, 1] (bJ l n)).2 : Nat) : Int)]] (fun H sH => ?_) (ix := [1])
          exact tK (eV q3 (by unfold xW; rw [if_neg q6, q7]; rfl)) rfl rfl (fu.sees sH)
        · skip
          rw [q7] at pb7
          refine oQ (t := (cJ (aJ l n).a 6) == 0) (beq_eq_false_iff_ne.2 q6) ?_
          refine gov2 53 [.b 0 2, .cl 24 #[Vi ((aJ l n).b), Vi 7] (Vi 6), .fix, .pu, .f 0 4, .fix] [] ?_ (ho := (And.intro (fun H sH => pb7 _ rb0 rb1 (by omega) (by omega)) (trivial)))
          intro b41 bfk W42 S43
          refine lQ 0 bfk 0 [Vi 1, Vi 1] fun fk => ?_
          refine kQ 2 (fun a w hJ => many 9 [1, 1] _ _ _ _ _ _ _ (hr.sees (S2.trans (S5.trans (S43.trans hJ.j.sees)))) (by omega) (by simp) (by simp <;> omega) (sX [1, 1] (by unfold maxLen; simp) (fk.sees hJ.j.sees)) (hf.sees (hJ.j.lent hm)) (List.mem_append_right _ hg) (f4.sees (S5.trans (S43.trans hJ.j.sees))) (f8.sees (S5.trans (S43.trans hJ.j.sees))) (f12.sees (S5.trans (S43.trans hJ.j.sees)))) ?_; rintro _ _ W44 S45 ⟨u, rfl, rfl, fu⟩
          refine go0 7 [.b 1 0] [] ?_
          refine hQ.toB [.agg #[Vi ((opE 9 (dJ (gJ l fs d) [1, 1] (bJ l n)).1).op), Vi ((opE 9 (dJ (gJ l fs d) [1, 1] (bJ l n)).1).k), Vi ((opE 9 (dJ (gJ l fs d) [1, 1] (bJ l n)).1).n), .string ((opE 9 (dJ (gJ l fs d) [1, 1] (bJ l n)).1).s), .string ((opE 9 (dJ (gJ l fs d) [1, 1] (bJ l n)).1).nm), .slice (sA u) (sN u) (sC u)]] [[sl, Vi (((dJ (gJ l fs d) [1, 1] (bJ l n)).2 : Nat) : Int)]] (fun H sH => ?_) (ix := [1])
          exact tK (eV q3 (by unfold xW; rw [if_neg q6, q7]; rfl)) rfl rfl (fu.sees sH)
    · skip
      by_cases q6 : cJ (aJ l n).a 6 = 0
      · refine dV (t := (cJ (aJ l n).a 6) == 0) (beq_iff_eq.2 q6) ?_
        refine jV 6 [.fix] [] ?_
        intro bfk W46 S47
        refine lQ 0 bfk 0 [Vi 2, Vi 2, Vi 2] fun fk => ?_
        refine kQ 2 (fun a w hJ => many 17 [2, 2, 2] _ _ _ _ _ _ _ (hr.sees (S2.trans (S5.trans (S47.trans hJ.j.sees)))) (by omega) (by simp) (by simp <;> omega) (sX [2, 2, 2] (by unfold maxLen; simp) (fk.sees hJ.j.sees)) (hf.sees (hJ.j.lent hm)) (List.mem_append_right _ hg) (f4.sees (S5.trans (S47.trans hJ.j.sees))) (f8.sees (S5.trans (S47.trans hJ.j.sees))) (f12.sees (S5.trans (S47.trans hJ.j.sees)))) ?_; rintro _ _ W48 S49 ⟨u, rfl, rfl, fu⟩
        refine go0 5 [.b 1 0] [] ?_
        refine hQ.toB [.agg #[Vi ((opE 17 (dJ (gJ l fs d) [2, 2, 2] (bJ l n)).1).op), Vi ((opE 17 (dJ (gJ l fs d) [2, 2, 2] (bJ l n)).1).k), Vi ((opE 17 (dJ (gJ l fs d) [2, 2, 2] (bJ l n)).1).n), .string ((opE 17 (dJ (gJ l fs d) [2, 2, 2] (bJ l n)).1).s), .string ((opE 17 (dJ (gJ l fs d) [2, 2, 2] (bJ l n)).1).nm), .slice (sA u) (sN u) (sC u)]] [[sl, Vi (((dJ (gJ l fs d) [2, 2, 2] (bJ l n)).2 : Nat) : Int)]] (fun H sH => ?_) (ix := [1])
        exact tK (eV q3 (by unfold xW; rw [if_pos q6])) rfl rfl (fu.sees sH)
      · skip
        obtain q7 | q7 | q7 | q7 | q7 | q7 | q7 : cJ (aJ l n).b 7 = 0 ∨ cJ (aJ l n).b 7 = 1 ∨ cJ (aJ l n).b 7 = 2 ∨ cJ (aJ l n).b 7 = 3 ∨ cJ (aJ l n).b 7 = 4 ∨ cJ (aJ l n).b 7 = 5 ∨ cJ (aJ l n).b 7 = 6 := by omega
        · skip
          rw [q7] at pb7
          refine oQ (t := (cJ (aJ l n).a 6) == 0) (beq_eq_false_iff_ne.2 q6) ?_
          refine jV 44 [.b 0 2, .cl 24 #[Vi ((aJ l n).b), Vi 7] (Vi 0), .fix] [] ?_ (ho := (And.intro (fun H sH => pb7 _ rb0 rb1 (by omega) (by omega)) (trivial)))
          intro bfk W50 S51
          refine lQ 0 bfk 0 [Vi 2] fun fk => ?_
          refine kQ 2 (fun a w hJ => many 4 [2] _ _ _ _ _ _ _ (hr.sees (S2.trans (S5.trans (S51.trans hJ.j.sees)))) (by omega) (by simp) (by simp <;> omega) (sX [2] (by unfold maxLen; simp) (fk.sees hJ.j.sees)) (hf.sees (hJ.j.lent hm)) (List.mem_append_right _ hg) (f4.sees (S5.trans (S51.trans hJ.j.sees))) (f8.sees (S5.trans (S51.trans hJ.j.sees))) (f12.sees (S5.trans (S51.trans hJ.j.sees)))) ?_; rintro _ _ W52 S53 ⟨u, rfl, rfl, fu⟩
          refine go0 7 [.b 1 0] [] ?_
          refine hQ.toB [.agg #[Vi ((opE 4 (dJ (gJ l fs d) [2] (bJ l n)).1).op), Vi ((opE 4 (dJ (gJ l fs d) [2] (bJ l n)).1).k), Vi ((opE 4 (dJ (gJ l fs d) [2] (bJ l n)).1).n), .string ((opE 4 (dJ (gJ l fs d) [2] (bJ l n)).1).s), .string ((opE 4 (dJ (gJ l fs d) [2] (bJ l n)).1).nm), .slice (sA u) (sN u) (sC u)]] [[sl, Vi (((dJ (gJ l fs d) [2] (bJ l n)).2 : Nat) : Int)]] (fun H sH => ?_) (ix := [1])
          exact tK (eV q3 (by unfold xW; rw [if_neg q6, q7]; rfl)) rfl rfl (fu.sees sH)
        · skip
          rw [q7] at pb7
          refine oQ (t := (cJ (aJ l n).a 6) == 0) (beq_eq_false_iff_ne.2 q6) ?_
          refine jV 55 [.b 0 2, .cl 24 #[Vi ((aJ l n).b), Vi 7] (Vi 1), .fix] [] ?_ (ho := (And.intro (fun H sH => pb7 _ rb0 rb1 (by omega) (by omega)) (trivial)))
          intro bfk W54 S55
          refine lQ 0 bfk 0 [Vi 2, Vi 2] fun fk => ?_
          refine kQ 2 (fun a w hJ => many 15 [2, 2] _ _ _ _ _ _ _ (hr.sees (S2.trans (S5.trans (S55.trans hJ.j.sees)))) (by omega) (by simp) (by simp <;> omega) (sX [2, 2] (by unfold maxLen; simp) (fk.sees hJ.j.sees)) (hf.sees (hJ.j.lent hm)) (List.mem_append_right _ hg) (f4.sees (S5.trans (S55.trans hJ.j.sees))) (f8.sees (S5.trans (S55.trans hJ.j.sees))) (f12.sees (S5.trans (S55.trans hJ.j.sees)))) ?_; rintro _ _ W56 S57 ⟨u, rfl, rfl, fu⟩
          refine go0 7 [.b 1 0] [] ?_
          refine hQ.toB [.agg #[Vi ((opE 15 (dJ (gJ l fs d) [2, 2] (bJ l n)).1).op), Vi ((opE 15 (dJ (gJ l fs d) [2, 2] (bJ l n)).1).k), Vi ((opE 15 (dJ (gJ l fs d) [2, 2] (bJ l n)).1).n), .string ((opE 15 (dJ (gJ l fs d) [2, 2] (bJ l n)).1).s), .string ((opE 15 (dJ (gJ l fs d) [2, 2] (bJ l n)).1).nm), .slice (sA u) (sN u) (sC u)]] [[sl, Vi (((dJ (gJ l fs d) [2, 2] (bJ l n)).2 : Nat) : Int)]] (fun H sH => ?_) (ix := [1])
          exact tK (eV q3 (by unfold xW; rw [if_neg q6, q7]; rfl)) rfl rfl (fu.sees sH)
        · skip
          rw [q7] at pb7
          refine oQ (t := (cJ (aJ l n).a 6) == 0) (beq_eq_false_iff_ne.2 q6) ?_
          refine jV 55 [.b 0 2, .cl 24 #[Vi ((aJ l n).b), Vi 7] (Vi 2), .fix] [] ?_ (ho := (And.intro (fun H sH => pb7 _ rb0 rb1 (by omega) (by omega)) (trivial)))
          intro bfk W58 S59
          refine lQ 0 bfk 0 [Vi 2, Vi 2] fun fk => ?_
          refine kQ 2 (fun a w hJ => many 16 [2, 2] _ _ _ _ _ _ _ (hr.sees (S2.trans (S5.trans (S59.trans hJ.j.sees)))) (by omega) (by simp) (by simp <;> omega) (sX [2, 2] (by unfold maxLen; simp) (fk.sees hJ.j.sees)) (hf.sees (hJ.j.lent hm)) (List.mem_append_right _ hg) (f4.sees (S5.trans (S59.trans hJ.j.sees))) (f8.sees (S5.trans (S59.trans hJ.j.sees))) (f12.sees (S5.trans (S59.trans hJ.j.sees)))) ?_; rintro _ _ W60 S61 ⟨u, rfl, rfl, fu⟩
          refine go0 7 [.b 1 0] [] ?_
          refine hQ.toB [.agg #[Vi ((opE 16 (dJ (gJ l fs d) [2, 2] (bJ l n)).1).op), Vi ((opE 16 (dJ (gJ l fs d) [2, 2] (bJ l n)).1).k), Vi ((opE 16 (dJ (gJ l fs d) [2, 2] (bJ l n)).1).n), .string ((opE 16 (dJ (gJ l fs d) [2, 2] (bJ l n)).1).s), .string ((opE 16 (dJ (gJ l fs d) [2, 2] (bJ l n)).1).nm), .slice (sA u) (sN u) (sC u)]] [[sl, Vi (((dJ (gJ l fs d) [2, 2] (bJ l n)).2 : Nat) : Int)]] (fun H sH => ?_) (ix := [1])
          exact tK (eV q3 (by unfold xW; rw [if_neg q6, q7]; rfl)) rfl rfl (fu.sees sH)
        · skip
          rw [q7] at pb7
          obtain q4 | q4 | q4 : cJ (aJ l n).a 3 = 0 ∨ cJ (aJ l n).a 3 = 1 ∨ cJ (aJ l n).a 3 = 2 := by omega
          · skip
            rw [q4] at pa3
            refine oQ (t := (cJ (aJ l n).a 6) == 0) (beq_eq_false_iff_ne.2 q6) ?_
            refine jV 66 [.b 0 2, .cl 24 #[Vi ((aJ l n).b), Vi 7] (Vi 3), .b 0 1, .cl 24 #[Vi ((aJ l n).a), Vi 3] (Vi 0), .fix] [] ?_ (ho := (And.intro (fun H sH => pb7 _ rb0 rb1 (by omega) (by omega)) (And.intro (fun H sH => pa3 _ a0 a1 (by omega) (by omega)) (trivial))))
            intro bfk W62 S63
            refine lQ 0 bfk 0 [Vi 1, Vi 1] fun fk => ?_
            refine kQ 2 (fun a w hJ => many 11 [1, 1] _ _ _ _ _ _ _ (hr.sees (S2.trans (S5.trans (S63.trans hJ.j.sees)))) (by omega) (by simp) (by simp <;> omega) (sX [1, 1] (by unfold maxLen; simp) (fk.sees hJ.j.sees)) (hf.sees (hJ.j.lent hm)) (List.mem_append_right _ hg) (f4.sees (S5.trans (S63.trans hJ.j.sees))) (f8.sees (S5.trans (S63.trans hJ.j.sees))) (f12.sees (S5.trans (S63.trans hJ.j.sees)))) ?_; rintro _ _ W64 S65 ⟨u, rfl, rfl, fu⟩
            refine go0 7 [.b 1 0] [] ?_
            refine hQ.toB [.agg #[Vi ((opE 11 (dJ (gJ l fs d) [1, 1] (bJ l n)).1).op), Vi ((opE 11 (dJ (gJ l fs d) [1, 1] (bJ l n)).1).k), Vi ((opE 11 (dJ (gJ l fs d) [1, 1] (bJ l n)).1).n), .string ((opE 11 (dJ (gJ l fs d) [1, 1] (bJ l n)).1).s), .string ((opE 11 (dJ (gJ l fs d) [1, 1] (bJ l n)).1).nm), .slice (sA u) (sN u) (sC u)]] [[sl, Vi (((dJ (gJ l fs d) [1, 1] (bJ l n)).2 : Nat) : Int)]] (fun H sH => ?_) (ix := [1])
            exact tK (eV q3 (by unfold xW; rw [if_neg q6, q7, q4]; rfl)) rfl rfl (fu.sees sH)
          · skip
            rw [q4] at pa3
            refine oQ (t := (cJ (aJ l n).a 6) == 0) (beq_eq_false_iff_ne.2 q6) ?_
            refine jV 66 [.b 0 2, .cl 24 #[Vi ((aJ l n).b), Vi 7] (Vi 3), .b 0 1, .cl 24 #[Vi ((aJ l n).a), Vi 3] (Vi 1), .fix] [] ?_ (ho := (And.intro (fun H sH => pb7 _ rb0 rb1 (by omega) (by omega)) (And.intro (fun H sH => pa3 _ a0 a1 (by omega) (by omega)) (trivial))))
            intro bfk W66 S67
            refine lQ 0 bfk 0 [Vi 2, Vi 2] fun fk => ?_
            refine kQ 2 (fun a w hJ => many 11 [2, 2] _ _ _ _ _ _ _ (hr.sees (S2.trans (S5.trans (S67.trans hJ.j.sees)))) (by omega) (by simp) (by simp <;> omega) (sX [2, 2] (by unfold maxLen; simp) (fk.sees hJ.j.sees)) (hf.sees (hJ.j.lent hm)) (List.mem_append_right _ hg) (f4.sees (S5.trans (S67.trans hJ.j.sees))) (f8.sees (S5.trans (S67.trans hJ.j.sees))) (f12.sees (S5.trans (S67.trans hJ.j.sees)))) ?_; rintro _ _ W68 S69 ⟨u, rfl, rfl, fu⟩
            refine go0 7 [.b 1 0] [] ?_
            refine hQ.toB [.agg #[Vi ((opE 11 (dJ (gJ l fs d) [2, 2] (bJ l n)).1).op), Vi ((opE 11 (dJ (gJ l fs d) [2, 2] (bJ l n)).1).k), Vi ((opE 11 (dJ (gJ l fs d) [2, 2] (bJ l n)).1).n), .string ((opE 11 (dJ (gJ l fs d) [2, 2] (bJ l n)).1).s), .string ((opE 11 (dJ (gJ l fs d) [2, 2] (bJ l n)).1).nm), .slice (sA u) (sN u) (sC u)]] [[sl, Vi (((dJ (gJ l fs d) [2, 2] (bJ l n)).2 : Nat) : Int)]] (fun H sH => ?_) (ix := [1])
            exact tK (eV q3 (by unfold xW; rw [if_neg q6, q7, q4]; rfl)) rfl rfl (fu.sees sH)
          · skip
            rw [q4] at pa3
            refine oQ (t := (cJ (aJ l n).a 6) == 0) (beq_eq_false_iff_ne.2 q6) ?_
            refine jV 66 [.b 0 2, .cl 24 #[Vi ((aJ l n).b), Vi 7] (Vi 3), .b 0 1, .cl 24 #[Vi ((aJ l n).a), Vi 3] (Vi 2), .fix] [] ?_ (ho := (And.intro (fun H sH => pb7 _ rb0 rb1 (by omega) (by omega)) (And.intro (fun H sH => pa3 _ a0 a1 (by omega) (by omega)) (trivial))))
            intro bfk W70 S71
            refine lQ 0 bfk 0 [Vi 3, Vi 3] fun fk => ?_
            refine kQ 2 (fun a w hJ => many 11 [3, 3] _ _ _ _ _ _ _ (hr.sees (S2.trans (S5.trans (S71.trans hJ.j.sees)))) (by omega) (by simp) (by simp <;> omega) (sX [3, 3] (by unfold maxLen; simp) (fk.sees hJ.j.sees)) (hf.sees (hJ.j.lent hm)) (List.mem_append_right _ hg) (f4.sees (S5.trans (S71.trans hJ.j.sees))) (f8.sees (S5.trans (S71.trans hJ.j.sees))) (f12.sees (S5.trans (S71.trans hJ.j.sees)))) ?_; rintro _ _ W72 S73 ⟨u, rfl, rfl, fu⟩
            refine go0 7 [.b 1 0] [] ?_
            refine hQ.toB [.agg #[Vi ((opE 11 (dJ (gJ l fs d) [3, 3] (bJ l n)).1).op), Vi ((opE 11 (dJ (gJ l fs d) [3, 3] (bJ l n)).1).k), Vi ((opE 11 (dJ (gJ l fs d) [3, 3] (bJ l n)).1).n), .string ((opE 11 (dJ (gJ l fs d) [3, 3] (bJ l n)).1).s), .string ((opE 11 (dJ (gJ l fs d) [3, 3] (bJ l n)).1).nm), .slice (sA u) (sN u) (sC u)]] [[sl, Vi (((dJ (gJ l fs d) [3, 3] (bJ l n)).2 : Nat) : Int)]] (fun H sH => ?_) (ix := [1])
            exact tK (eV q3 (by unfold xW; rw [if_neg q6, q7, q4]; rfl)) rfl rfl (fu.sees sH)
        · skip
          rw [q7] at pb7
          obtain q4 | q4 | q4 : cJ (aJ l n).a 3 = 0 ∨ cJ (aJ l n).a 3 = 1 ∨ cJ (aJ l n).a 3 = 2 := by omega
          · skip
            rw [q4] at pa3
            refine oQ (t := (cJ (aJ l n).a 6) == 0) (beq_eq_false_iff_ne.2 q6) ?_
            refine jV 66 [.b 0 2, .cl 24 #[Vi ((aJ l n).b), Vi 7] (Vi 4), .b 0 1, .cl 24 #[Vi ((aJ l n).a), Vi 3] (Vi 0), .fix] [] ?_ (ho := (And.intro (fun H sH => pb7 _ rb0 rb1 (by omega) (by omega)) (And.intro (fun H sH => pa3 _ a0 a1 (by omega) (by omega)) (trivial))))
            intro bfk W74 S75
            refine lQ 0 bfk 0 [Vi 1, Vi 1] fun fk => ?_
            refine kQ 2 (fun a w hJ => many 12 [1, 1] _ _ _ _ _ _ _ (hr.sees (S2.trans (S5.trans (S75.trans hJ.j.sees)))) (by omega) (by simp) (by simp <;> omega) (sX [1, 1] (by unfold maxLen; simp) (fk.sees hJ.j.sees)) (hf.sees (hJ.j.lent hm)) (List.mem_append_right _ hg) (f4.sees (S5.trans (S75.trans hJ.j.sees))) (f8.sees (S5.trans (S75.trans hJ.j.sees))) (f12.sees (S5.trans (S75.trans hJ.j.sees)))) ?_; rintro _ _ W76 S77 ⟨u, rfl, rfl, fu⟩
            refine go0 7 [.b 1 0] [] ?_
            refine hQ.toB [.agg #[Vi ((opE 12 (dJ (gJ l fs d) [1, 1] (bJ l n)).1).op), Vi ((opE 12 (dJ (gJ l fs d) [1, 1] (bJ l n)).1).k), Vi ((opE 12 (dJ (gJ l fs d) [1, 1] (bJ l n)).1).n), .string ((opE 12 (dJ (gJ l fs d) [1, 1] (bJ l n)).1).s), .string ((opE 12 (dJ (gJ l fs d) [1, 1] (bJ l n)).1).nm), .slice (sA u) (sN u) (sC u)]] [[sl, Vi (((dJ (gJ l fs d) [1, 1] (bJ l n)).2 : Nat) : Int)]] (fun H sH => ?_) (ix := [1])
            exact tK (eV q3 (by unfold xW; rw [if_neg q6, q7, q4]; rfl)) rfl rfl (fu.sees sH)
          · skip
            rw [q4] at pa3
            refine oQ (t := (cJ (aJ l n).a 6) == 0) (beq_eq_false_iff_ne.2 q6) ?_
            refine jV 66 [.b 0 2, .cl 24 #[Vi ((aJ l n).b), Vi 7] (Vi 4), .b 0 1, .cl 24 #[Vi ((aJ l n).a), Vi 3] (Vi 1), .fix] [] ?_ (ho := (And.intro (fun H sH => pb7 _ rb0 rb1 (by omega) (by omega)) (And.intro (fun H sH => pa3 _ a0 a1 (by omega) (by omega)) (trivial))))
            intro bfk W78 S79
            refine lQ 0 bfk 0 [Vi 2, Vi 2] fun fk => ?_
            refine kQ 2 (fun a w hJ => many 12 [2, 2] _ _ _ _ _ _ _ (hr.sees (S2.trans (S5.trans (S79.trans hJ.j.sees)))) (by omega) (by simp) (by simp <;> omega) (sX [2, 2] (by unfold maxLen; simp) (fk.sees hJ.j.sees)) (hf.sees (hJ.j.lent hm)) (List.mem_append_right _ hg) (f4.sees (S5.trans (S79.trans hJ.j.sees))) (f8.sees (S5.trans (S79.trans hJ.j.sees))) (f12.sees (S5.trans (S79.trans hJ.j.sees)))) ?_; rintro _ _ W80 S81 ⟨u, rfl, rfl, fu⟩
            refine go0 7 [.b 1 0] [] ?_
            refine hQ.toB [.agg #[Vi ((opE 12 (dJ (gJ l fs d) [2, 2] (bJ l n)).1).op), Vi ((opE 12 (dJ (gJ l fs d) [2, 2] (bJ l n)).1).k), Vi ((opE 12 (dJ (gJ l fs d) [2, 2] (bJ l n)).1).n), .string ((opE 12 (dJ (gJ l fs d) [2, 2] (bJ l n)).1).s), .string ((opE 12 (dJ (gJ l fs d) [2, 2] (bJ l n)).1).nm), .slice (sA u) (sN u) (sC u)]] [[sl, Vi (((dJ (gJ l fs d) [2, 2] (bJ l n)).2 : Nat) : Int)]] (fun H sH => ?_) (ix := [1])
            exact tK (eV q3 (by unfold xW; rw [if_neg q6, q7, q4]; rfl)) rfl rfl (fu.sees sH)
          · skip
            rw [q4] at pa3
            refine oQ (t := (cJ (aJ l n).a 6) == 0) (beq_eq_false_iff_ne.2 q6) ?_
            refine jV 66 [.b 0 2, .cl 24 #[Vi ((aJ l n).b), Vi 7] (Vi 4), .b 0 1, .cl 24 #[Vi ((aJ l n).a), Vi 3] (Vi 2), .fix] [] ?_ (ho := (And.intro (fun H sH => pb7 _ rb0 rb1 (by omega) (by omega)) (And.intro (fun H sH => pa3 _ a0 a1 (by omega) (by omega)) (trivial))))
            intro bfk W82 S83
            refine lQ 0 bfk 0 [Vi 3, Vi 3] fun fk => ?_
            refine kQ 2 (fun a w hJ => many 12 [3, 3] _ _ _ _ _ _ _ (hr.sees (S2.trans (S5.trans (S83.trans hJ.j.sees)))) (by omega) (by simp) (by simp <;> omega) (sX [3, 3] (by unfold maxLen; simp) (fk.sees hJ.j.sees)) (hf.sees (hJ.j.lent hm)) (List.mem_append_right _ hg) (f4.sees (S5.trans (S83.trans hJ.j.sees))) (f8.sees (S5.trans (S83.trans hJ.j.sees))) (f12.sees (S5.trans (S83.trans hJ.j.sees)))) ?_; rintro _ _ W84 S85 ⟨u, rfl, rfl, fu⟩
            refine go0 7 [.b 1 0] [] ?_
            refine hQ.toB [.agg #[Vi ((opE 12 (dJ (gJ l fs d) [3, 3] (bJ l n)).1).op), Vi ((opE 12 (dJ (gJ l fs d) [3, 3] (bJ l n)).1).k), Vi ((opE 12 (dJ (gJ l fs d) [3, 3] (bJ l n)).1).n), .string ((opE 12 (dJ (gJ l fs d) [3, 3] (bJ l n)).1).s), .string ((opE 12 (dJ (gJ l fs d) [3, 3] (bJ l n)).1).nm), .slice (sA u) (sN u) (sC u)]] [[sl, Vi (((dJ (gJ l fs d) [3, 3] (bJ l n)).2 : Nat) : Int)]] (fun H sH => ?_) (ix := [1])
            exact tK (eV q3 (by unfold xW; rw [if_neg q6, q7, q4]; rfl)) rfl rfl (fu.sees sH)
        · skip
          rw [q7] at pb7
          obtain q4 | q4 | q4 : cJ (aJ l n).a 3 = 0 ∨ cJ (aJ l n).a 3 = 1 ∨ cJ (aJ l n).a 3 = 2 := by omega
          · skip
            rw [q4] at pa3
            refine oQ (t := (cJ (aJ l n).a 6) == 0) (beq_eq_false_iff_ne.2 q6) ?_
            refine jV 66 [.b 0 2, .cl 24 #[Vi ((aJ l n).b), Vi 7] (Vi 5), .b 0 1, .cl 24 #[Vi ((aJ l n).a), Vi 3] (Vi 0), .fix] [] ?_ (ho := (And.intro (fun H sH => pb7 _ rb0 rb1 (by omega) (by omega)) (And.intro (fun H sH => pa3 _ a0 a1 (by omega) (by omega)) (trivial))))
            intro bfk W86 S87
            refine lQ 0 bfk 0 [Vi 1, Vi 1] fun fk => ?_
            refine kQ 2 (fun a w hJ => many 13 [1, 1] _ _ _ _ _ _ _ (hr.sees (S2.trans (S5.trans (S87.trans hJ.j.sees)))) (by omega) (by simp) (by simp <;> omega) (sX [1, 1] (by unfold maxLen; simp) (fk.sees hJ.j.sees)) (hf.sees (hJ.j.lent hm)) (List.mem_append_right _ hg) (f4.sees (S5.trans (S87.trans hJ.j.sees))) (f8.sees (S5.trans (S87.trans hJ.j.sees))) (f12.sees (S5.trans (S87.trans hJ.j.sees)))) ?_; rintro _ _ W88 S89 ⟨u, rfl, rfl, fu⟩
            refine go0 7 [.b 1 0] [] ?_
            refine hQ.toB [.agg #[Vi ((opE 13 (dJ (gJ l fs d) [1, 1] (bJ l n)).1).op), Vi ((opE 13 (dJ (gJ l fs d) [1, 1] (bJ l n)).1).k), Vi ((opE 13 (dJ (gJ l fs d) [1, 1] (bJ l n)).1).n), .string ((opE 13 (dJ (gJ l fs d) [1, 1] (bJ l n)).1).s), .string ((opE 13 (dJ (gJ l fs d) [1, 1] (bJ l n)).1).nm), .slice (sA u) (sN u) (sC u)]] [[sl, Vi (((dJ (gJ l fs d) [1, 1] (bJ l n)).2 : Nat) : Int)]] (fun H sH => ?_) (ix := [1])
            exact tK (eV q3 (by unfold xW; rw [if_neg q6, q7, q4]; rfl)) rfl rfl (fu.sees sH)
          · skip
            rw [q4] at pa3
            refine oQ (t := (cJ (aJ l n).a 6) == 0) (beq_eq_false_iff_ne.2 q6) ?_
            refine jV 66 [.b 0 2, .cl 24 #[Vi ((aJ l n).b), Vi 7] (Vi 5), .b 0 1, .cl 24 #[Vi ((aJ l n).a), Vi 3] (Vi 1), .fix] [] ?_ (ho := (And.intro (fun H sH => pb7 _ rb0 rb1 (by omega) (by omega)) (And.intro (fun H sH => pa3 _ a0 a1 (by omega) (by omega)) (trivial))))
            intro bfk W90 S91
            refine lQ 0 bfk 0 [Vi 2, Vi 2] fun fk => ?_
            refine kQ 2 (fun a w hJ => many 13 [2, 2] _ _ _ _ _ _ _ (hr.sees (S2.trans (S5.trans (S91.trans hJ.j.sees)))) (by omega) (by simp) (by simp <;> omega) (sX [2, 2] (by unfold maxLen; simp) (fk.sees hJ.j.sees)) (hf.sees (hJ.j.lent hm)) (List.mem_append_right _ hg) (f4.sees (S5.trans (S91.trans hJ.j.sees))) (f8.sees (S5.trans (S91.trans hJ.j.sees))) (f12.sees (S5.trans (S91.trans hJ.j.sees)))) ?_; rintro _ _ W92 S93 ⟨u, rfl, rfl, fu⟩
            refine go0 7 [.b 1 0] [] ?_
            refine hQ.toB [.agg #[Vi ((opE 13 (dJ (gJ l fs d) [2, 2] (bJ l n)).1).op), Vi ((opE 13 (dJ (gJ l fs d) [2, 2] (bJ l n)).1).k), Vi ((opE 13 (dJ (gJ l fs d) [2, 2] (bJ l n)).1).n), .string ((opE 13 (dJ (gJ l fs d) [2, 2] (bJ l n)).1).s), .string ((opE 13 (dJ (gJ l fs d) [2, 2] (bJ l n)).1).nm), .slice (sA u) (sN u) (sC u)]] [[sl, Vi (((dJ (gJ l fs d) [2, 2] (bJ l n)).2 : Nat) : Int)]] (fun H sH => ?_) (ix := [1])
            exact tK (eV q3 (by unfold xW; rw [if_neg q6, q7, q4]; rfl)) rfl rfl (fu.sees sH)
          · skip
            rw [q4] at pa3
            refine oQ (t := (cJ (aJ l n).a 6) == 0) (beq_eq_false_iff_ne.2 q6) ?_
            refine jV 66 [.b 0 2, .cl 24 #[Vi ((aJ l n).b), Vi 7] (Vi 5), .b 0 1, .cl 24 #[Vi ((aJ l n).a), Vi 3] (Vi 2), .fix] [] ?_ (ho := (And.intro (fun H sH => pb7 _ rb0 rb1 (by omega) (by omega)) (And.intro (fun H sH => pa3 _ a0 a1 (by omega) (by omega)) (trivial))))
            intro bfk W94 S95
            refine lQ 0 bfk 0 [Vi 3, Vi 3] fun fk => ?_
            refine kQ 2 (fun a w hJ => many 13 [3, 3] _ _ _ _ _ _ _ (hr.sees (S2.trans (S5.trans (S95.trans hJ.j.sees)))) (by omega) (by simp) (by simp <;> omega) (sX [3, 3] (by unfold maxLen; simp) (fk.sees hJ.j.sees)) (hf.sees (hJ.j.lent hm)) (List.mem_append_right _ hg) (f4.sees (S5.trans (S95.trans hJ.j.sees))) (f8.sees (S5.trans (S95.trans hJ.j.sees))) (f12.sees (S5.trans (S95.trans hJ.j.sees)))) ?_; rintro _ _ W96 S97 ⟨u, rfl, rfl, fu⟩
            refine go0 7 [.b 1 0] [] ?_
            refine hQ.toB [.agg #[Vi ((opE 13 (dJ (gJ l fs d) [3, 3] (bJ l n)).1).op), Vi ((opE 13 (dJ (gJ l fs d) [3, 3] (bJ l n)).1).k), Vi ((opE 13 (dJ (gJ l fs d) [3, 3] (bJ l n)).1).n), .string ((opE 13 (dJ (gJ l fs d) [3, 3] (bJ l n)).1).s), .string ((opE 13 (dJ (gJ l fs d) [3, 3] (bJ l n)).1).nm), .slice (sA u) (sN u) (sC u)]] [[sl, Vi (((dJ (gJ l fs d) [3, 3] (bJ l n)).2 : Nat) : Int)]] (fun H sH => ?_) (ix := [1])
            exact tK (eV q3 (by unfold xW; rw [if_neg q6, q7, q4]; rfl)) rfl rfl (fu.sees sH)
        · skip
          rw [q7] at pb7
          obtain q4 | q4 | q4 : cJ (aJ l n).a 3 = 0 ∨ cJ (aJ l n).a 3 = 1 ∨ cJ (aJ l n).a 3 = 2 := by omega
          · skip
            rw [q4] at pa3
            refine oQ (t := (cJ (aJ l n).a 6) == 0) (beq_eq_false_iff_ne.2 q6) ?_
            refine jV 66 [.b 0 2, .cl 24 #[Vi ((aJ l n).b), Vi 7] (Vi 6), .b 0 1, .cl 24 #[Vi ((aJ l n).a), Vi 3] (Vi 0), .fix] [] ?_ (ho := (And.intro (fun H sH => pb7 _ rb0 rb1 (by omega) (by omega)) (And.intro (fun H sH => pa3 _ a0 a1 (by omega) (by omega)) (trivial))))
            intro bfk W98 S99
            refine lQ 0 bfk 0 [Vi 1, Vi 1] fun fk => ?_
            refine kQ 2 (fun a w hJ => many 14 [1, 1] _ _ _ _ _ _ _ (hr.sees (S2.trans (S5.trans (S99.trans hJ.j.sees)))) (by omega) (by simp) (by simp <;> omega) (sX [1, 1] (by unfold maxLen; simp) (fk.sees hJ.j.sees)) (hf.sees (hJ.j.lent hm)) (List.mem_append_right _ hg) (f4.sees (S5.trans (S99.trans hJ.j.sees))) (f8.sees (S5.trans (S99.trans hJ.j.sees))) (f12.sees (S5.trans (S99.trans hJ.j.sees)))) ?_; rintro _ _ W100 S101 ⟨u, rfl, rfl, fu⟩
            refine go0 7 [.b 1 0] [] ?_
            refine hQ.toB [.agg #[Vi ((opE 14 (dJ (gJ l fs d) [1, 1] (bJ l n)).1).op), Vi ((opE 14 (dJ (gJ l fs d) [1, 1] (bJ l n)).1).k), Vi ((opE 14 (dJ (gJ l fs d) [1, 1] (bJ l n)).1).n), .string ((opE 14 (dJ (gJ l fs d) [1, 1] (bJ l n)).1).s), .string ((opE 14 (dJ (gJ l fs d) [1, 1] (bJ l n)).1).nm), .slice (sA u) (sN u) (sC u)]] [[sl, Vi (((dJ (gJ l fs d) [1, 1] (bJ l n)).2 : Nat) : Int)]] (fun H sH => ?_) (ix := [1])
            exact tK (eV q3 (by unfold xW; rw [if_neg q6, q7, q4]; rfl)) rfl rfl (fu.sees sH)
          · skip
            rw [q4] at pa3
            refine oQ (t := (cJ (aJ l n).a 6) == 0) (beq_eq_false_iff_ne.2 q6) ?_
            refine jV 66 [.b 0 2, .cl 24 #[Vi ((aJ l n).b), Vi 7] (Vi 6), .b 0 1, .cl 24 #[Vi ((aJ l n).a), Vi 3] (Vi 1), .fix] [] ?_ (ho := (And.intro (fun H sH => pb7 _ rb0 rb1 (by omega) (by omega)) (And.intro (fun H sH => pa3 _ a0 a1 (by omega) (by omega)) (trivial))))
            intro bfk W102 S103
            refine lQ 0 bfk 0 [Vi 2, Vi 2] fun fk => ?_
            refine kQ 2 (fun a w hJ => many 14 [2, 2] _ _ _ _ _ _ _ (hr.sees (S2.trans (S5.trans (S103.trans hJ.j.sees)))) (by omega) (by simp) (by simp <;> omega) (sX [2, 2] (by unfold maxLen; simp) (fk.sees hJ.j.sees)) (hf.sees (hJ.j.lent hm)) (List.mem_append_right _ hg) (f4.sees (S5.trans (S103.trans hJ.j.sees))) (f8.sees (S5.trans (S103.trans hJ.j.sees))) (f12.sees (S5.trans (S103.trans hJ.j.sees)))) ?_; rintro _ _ W104 S105 ⟨u, rfl, rfl, fu⟩
            refine go0 7 [.b 1 0] [] ?_
            refine hQ.toB [.agg #[Vi ((opE 14 (dJ (gJ l fs d) [2, 2] (bJ l n)).1).op), Vi ((opE 14 (dJ (gJ l fs d) [2, 2] (bJ l n)).1).k), Vi ((opE 14 (dJ (gJ l fs d) [2, 2] (bJ l n)).1).n), .string ((opE 14 (dJ (gJ l fs d) [2, 2] (bJ l n)).1).s), .string ((opE 14 (dJ (gJ l fs d) [2, 2] (bJ l n)).1).nm), .slice (sA u) (sN u) (sC u)]] [[sl, Vi (((dJ (gJ l fs d) [2, 2] (bJ l n)).2 : Nat) : Int)]] (fun H sH => ?_) (ix := [1])
            exact tK (eV q3 (by unfold xW; rw [if_neg q6, q7, q4]; rfl)) rfl rfl (fu.sees sH)
          · skip
            rw [q4] at pa3
            refine oQ (t := (cJ (aJ l n).a 6) == 0) (beq_eq_false_iff_ne.2 q6) ?_
            refine jV 66 [.b 0 2, .cl 24 #[Vi ((aJ l n).b), Vi 7] (Vi 6), .b 0 1, .cl 24 #[Vi ((aJ l n).a), Vi 3] (Vi 2), .fix] [] ?_ (ho := (And.intro (fun H sH => pb7 _ rb0 rb1 (by omega) (by omega)) (And.intro (fun H sH => pa3 _ a0 a1 (by omega) (by omega)) (trivial))))
            intro bfk W106 S107
            refine lQ 0 bfk 0 [Vi 3, Vi 3] fun fk => ?_
            refine kQ 2 (fun a w hJ => many 14 [3, 3] _ _ _ _ _ _ _ (hr.sees (S2.trans (S5.trans (S107.trans hJ.j.sees)))) (by omega) (by simp) (by simp <;> omega) (sX [3, 3] (by unfold maxLen; simp) (fk.sees hJ.j.sees)) (hf.sees (hJ.j.lent hm)) (List.mem_append_right _ hg) (f4.sees (S5.trans (S107.trans hJ.j.sees))) (f8.sees (S5.trans (S107.trans hJ.j.sees))) (f12.sees (S5.trans (S107.trans hJ.j.sees)))) ?_; rintro _ _ W108 S109 ⟨u, rfl, rfl, fu⟩
            refine go0 7 [.b 1 0] [] ?_
            refine hQ.toB [.agg #[Vi ((opE 14 (dJ (gJ l fs d) [3, 3] (bJ l n)).1).op), Vi ((opE 14 (dJ (gJ l fs d) [3, 3] (bJ l n)).1).k), Vi ((opE 14 (dJ (gJ l fs d) [3, 3] (bJ l n)).1).n), .string ((opE 14 (dJ (gJ l fs d) [3, 3] (bJ l n)).1).s), .string ((opE 14 (dJ (gJ l fs d) [3, 3] (bJ l n)).1).nm), .slice (sA u) (sN u) (sC u)]] [[sl, Vi (((dJ (gJ l fs d) [3, 3] (bJ l n)).2 : Nat) : Int)]] (fun H sH => ?_) (ix := [1])
            exact tK (eV q3 (by unfold xW; rw [if_neg q6, q7, q4]; rfl)) rfl rfl (fu.sees sH)
    · skip
      by_cases q6 : cJ (aJ l n).a 6 = 0
      · refine dV (t := (cJ (aJ l n).a 6) == 0) (beq_iff_eq.2 q6) ?_
        refine jV 6 [.fix] [] ?_
        intro bfk W110 S111
        refine lQ 0 bfk 0 [Vi 2, Vi 3, Vi 3] fun fk => ?_
        refine kQ 2 (fun a w hJ => many 17 [2, 3, 3] _ _ _ _ _ _ _ (hr.sees (S2.trans (S5.trans (S111.trans hJ.j.sees)))) (by omega) (by simp) (by simp <;> omega) (sX [2, 3, 3] (by unfold maxLen; simp) (fk.sees hJ.j.sees)) (hf.sees (hJ.j.lent hm)) (List.mem_append_right _ hg) (f4.sees (S5.trans (S111.trans hJ.j.sees))) (f8.sees (S5.trans (S111.trans hJ.j.sees))) (f12.sees (S5.trans (S111.trans hJ.j.sees)))) ?_; rintro _ _ W112 S113 ⟨u, rfl, rfl, fu⟩
        refine go0 5 [.b 1 0] [] ?_
        refine hQ.toB [.agg #[Vi ((opE 17 (dJ (gJ l fs d) [2, 3, 3] (bJ l n)).1).op), Vi ((opE 17 (dJ (gJ l fs d) [2, 3, 3] (bJ l n)).1).k), Vi ((opE 17 (dJ (gJ l fs d) [2, 3, 3] (bJ l n)).1).n), .string ((opE 17 (dJ (gJ l fs d) [2, 3, 3] (bJ l n)).1).s), .string ((opE 17 (dJ (gJ l fs d) [2, 3, 3] (bJ l n)).1).nm), .slice (sA u) (sN u) (sC u)]] [[sl, Vi (((dJ (gJ l fs d) [2, 3, 3] (bJ l n)).2 : Nat) : Int)]] (fun H sH => ?_) (ix := [1])
        exact tK (eV q3 (by unfold xW; rw [if_pos q6])) rfl rfl (fu.sees sH)
      · skip
        refine oQ (t := (cJ (aJ l n).a 6) == 0) (beq_eq_false_iff_ne.2 q6) ?_
        refine jV 30 [.fix] [] ?_
        intro bfk W114 S115
        refine lQ 0 bfk 0 [Vi 3, Vi 3] fun fk => ?_
        refine kQ 2 (fun a w hJ => many 10 [3, 3] _ _ _ _ _ _ _ (hr.sees (S2.trans (S5.trans (S115.trans hJ.j.sees)))) (by omega) (by simp) (by simp <;> omega) (sX [3, 3] (by unfold maxLen; simp) (fk.sees hJ.j.sees)) (hf.sees (hJ.j.lent hm)) (List.mem_append_right _ hg) (f4.sees (S5.trans (S115.trans hJ.j.sees))) (f8.sees (S5.trans (S115.trans hJ.j.sees))) (f12.sees (S5.trans (S115.trans hJ.j.sees)))) ?_; rintro _ _ W116 S117 ⟨u, rfl, rfl, fu⟩
        refine go0 4 [.b 1 0] [] ?_
        refine hQ.toB [.agg #[Vi ((opE 10 (dJ (gJ l fs d) [3, 3] (bJ l n)).1).op), Vi ((opE 10 (dJ (gJ l fs d) [3, 3] (bJ l n)).1).k), Vi ((opE 10 (dJ (gJ l fs d) [3, 3] (bJ l n)).1).n), .string ((opE 10 (dJ (gJ l fs d) [3, 3] (bJ l n)).1).s), .string ((opE 10 (dJ (gJ l fs d) [3, 3] (bJ l n)).1).nm), .slice (sA u) (sN u) (sC u)]] [[sl, Vi (((dJ (gJ l fs d) [3, 3] (bJ l n)).2 : Nat) : Int)]] (fun H sH => ?_) (ix := [1])
        exact tK (eV q3 (by unfold xW; rw [if_neg q6]; rfl)) rfl rfl (fu.sees sH)
theorem exprC_all (l:List RawD) (fs:List Fd) (hlen:l.length * 40≤reachBytes) (hok:∀ r∈l,r.ok) (hfs:fs.length≤100):∀ d,d < 1000→ExprC l fs d
 | 0,_=>expr_zero l fs hlen hok hfs
 | d + 1,hd=>expr_succ l fs hlen hok hfs d (by omega) (exprC_all l fs hlen hok hfs d (by omega))
end Go.Proofs.YtjpgjnldeafpkaaGreat
namespace Go.Proofs.YtjpgjnldeafpkaaGreat
open Go.RowKit
def cntE:Nat→Nat
 | 0=>1
 | d + 1=>1 + 3 * cntE d
theorem cntE_pos (d:Nat):1≤cntE d:=by cases d <;> simp [cntE]
theorem wf_leaf {x:Ex} (h:TopOk x) (ha:x.args=[]):WfE x∧szE x=(1,1):=by
 refine ⟨WfE.mk' h (by rw [ha]; exact WfL.all (fun x hx=>by cases hx)),?_⟩
 rw [mY,ha]; rfl
theorem constE_ok (kind:Int) (r:RawD) (h1:1≤kind) (h3:kind≤3):TopOk (gK kind r):=by
 left
 have hk:=val_known kind r.k r.a r.t h1 h3
 refine ⟨rfl,?_,fun hk1=>?_,rfl,rfl⟩
 ·show qJ kind (if kind=1 then absI (valN kind r.k r.a) else valN kind r.k r.a) (valS kind r.t)
  by_cases g:kind=1
  ·rw [if_pos g]
   subst g
   unfold qJ at hk ⊢
   have hl:=val_lim 1 r (by omega) (by omega)
   simp only [absI]
   rcases hk with hk | hk | hk
   ·have hs:=hk.2.2
    refine .inl ⟨by first | rfl | trivial,?_,hs⟩
    unfold Lim
    split <;> omega
   ·omega
   ·omega
  ·rw [if_neg g]; exact hk
 ·have g:kind=1:=hk1
  show 0≤(if kind=1 then absI (valN kind r.k r.a) else valN kind r.k r.a)
  rw [if_pos g]; unfold absI; split <;> omega
theorem refE_ok {s:ByteArray} (h:rJ s.data.toList):TopOk (refE s):=.inr (.inl ⟨rfl,h,rfl,rfl,rfl,rfl⟩)
theorem leafE_ok (r:RawD) (fs:List Fd) (kind:Int) (h1:1≤kind) (h3:kind≤3) (hn:∀ f∈fs,rJ f.name.data.toList):TopOk (rV r fs kind):=by
 unfold rV
 split
 ·rename_i s hs
  split
  ·exact constE_ok kind r h1 h3
  ·have:=List.mem_of_getElem? hs
   obtain ⟨f,hf,rfl⟩:=List.mem_map.1 this
   exact refE_ok (hn f (List.mem_filter.1 hf).1)
 ·exact constE_ok kind r h1 h3
theorem pickE_ok (r:RawD) (kind:Int) (h1:1≤kind) (h3:kind≤3):3≤(xW r kind).1∧(xW r kind).1≤18∧(xW r kind).2.length=arity (xW r kind).1∧∀ k∈(xW r kind).2,1≤k∧k≤3:=by
 have a0:=aX r.a 6 (by omega)
 have b0:=aX r.b 7 (by omega)
 have b1:=zW r.b 7 (by omega)
 have c0:=aX r.a 3 (by omega)
 have c1:=zW r.a 3 (by omega)
 have hm:∀ n:Int,0≤n→n < 7→n≠0→n≠1→5≤intOps n∧intOps n≤9:=fun n _ _ _ _=>by
  unfold intOps; repeat' split
  all_goals omega
 have har:∀ op:Int,5≤op→op≤16→arity op=2:=fun op _ _=>by
  unfold arity
  rw [if_neg (by omega),if_neg (by omega),if_neg (by omega)]
 unfold xW
 split
 ·refine ⟨by omega,by omega,rfl,fun k hk=>?_⟩
  simp at hk; omega
 ·split
  ·split
   ·exact ⟨by simp,by simp,rfl,fun k hk=>by simp at hk; omega⟩
   ·split
    ·exact ⟨by simp,by simp,rfl,fun k hk=>by simp at hk; omega⟩
    ·have:=hm (cJ r.b 7) b0 b1 (by assumption) (by assumption)
     refine ⟨by simp only; omega,by simp only; omega,?_,fun k hk=>by simp at hk; omega⟩
     rw [har _ (by simp only; omega) (by simp only; omega)]; rfl
  ·split
   ·split
    ·exact ⟨by simp,by simp,rfl,fun k hk=>by simp at hk; omega⟩
    ·split
     ·refine ⟨by simp only; omega,by simp only; omega,?_,fun k hk=>by simp at hk; omega⟩
      rw [har _ (by simp only; omega) (by simp only; omega)]; rfl
     ·refine ⟨by simp only; omega,by simp only; omega,?_,fun k hk=>by simp at hk; omega⟩
      rw [har _ (by simp only; omega) (by simp only; omega)]; rfl
   ·exact ⟨by simp,by simp,rfl,fun k hk=>by simp at hk; omega⟩
theorem szL_le {m d:Nat}:∀ {l:List Ex},(∀ x∈l,(szE x).1≤m∧(szE x).2≤d)→(szL l).1≤l.length * m∧(szL l).2≤d
 | [],_=>by simp [szL]
 | x :: l,h=>by
  have h1:=h x (by simp)
  have h2:=szL_le (l:=l) (fun y hy=>h y (by simp [hy]))
  rw [szL,List.length_cons,Nat.succ_mul]
  exact ⟨by simp only; omega,by simp only; exact Nat.max_le.2 ⟨h1.2,h2.2⟩⟩
theorem manyE_all {one:Int→Nat→Ex × Nat} {p:Ex→Prop}:∀ (ks:List Int) (n:Nat),(∀ k∈ks,∀ n,p (one k n).1)→(dJ one ks n).1.length=ks.length∧∀ x∈(dJ one ks n).1,p x
 | [],n,_=>⟨rfl,fun x hx=>by cases hx⟩
 | k :: ks,n,h=>by
  have:=manyE_all ks (one k n).2 (fun k' hk=>h k' (by simp [hk]))
  refine ⟨by show ((dJ one ks (one k n).2).1.length + 1)=_; rw [this.1]; rfl,fun x hx=>?_⟩
  rcases List.mem_cons.1 hx with rfl | hx
  ·exact h k (by simp) n
  ·exact this.2 x hx
theorem genE_ok (l:List RawD) (fs:List Fd) (hn:∀ f∈fs,rJ f.name.data.toList):∀ (d:Nat) (kind:Int) (n:Nat),1≤kind→kind≤3→WfE (gJ l fs d kind n).1∧(szE (gJ l fs d kind n).1).1≤cntE d∧(szE (gJ l fs d kind n).1).2≤d + 1
 | 0,kind,n,h1,h3=>by
  have:=wf_leaf (leafE_ok (aJ l (bJ l n)) fs kind h1 h3 hn) (leaf_args _ _ _)
  show WfE (rV _ _ _)∧(szE (rV _ _ _)).1≤1∧(szE (rV _ _ _)).2≤1
  rw [this.2]; exact ⟨this.1,Nat.le_refl _,Nat.le_refl _⟩
 | d + 1,kind,n,h1,h3=>by
  have hc:=cntE_pos d
  by_cases g:cJ (aJ l n).k 3=0
  ·rw [genE_leaf g]
   have:=wf_leaf (leafE_ok (aJ l (bJ l n)) fs kind h1 h3 hn) (leaf_args _ _ _)
   simp only [cntE]
   rw [this.2]; exact ⟨this.1,by simp only; omega,by simp only; omega⟩
  ·obtain ⟨p1,p2,p3,p4⟩:=pickE_ok (aJ l n) kind h1 h3
   have hl:=pickE_len (aJ l n) kind
   obtain ⟨op,ks,hp⟩:∃ op ks,xW (aJ l n) kind=(op,ks):=⟨(xW (aJ l n) kind).1,(xW (aJ l n) kind).2,by cases xW (aJ l n) kind; rfl⟩
   rw [eV g hp]
   rw [hp] at p1 p2 p3 p4 hl
   simp only at p1 p2 p3 p4 hl
   obtain ⟨m1,m2⟩:=manyE_all (one:=gJ l fs d) (p:=fun x=>WfE x∧(szE x).1≤cntE d∧(szE x).2≤d + 1) ks (bJ l n) (fun k hk n=>genE_ok l fs hn d k n (p4 k hk).1 (p4 k hk).2)
   have hs:=szL_le (m:=cntE d) (d:=d + 1) (fun x hx=>(m2 x hx).2)
   rw [m1] at hs
   have hmul:=Nat.mul_le_mul_right (cntE d) hl
   generalize dJ (gJ l fs d) ks (bJ l n)=q at *
   have e:szE (opE op q.1)=(1 + (szL q.1).1,1 + (szL q.1).2):=mY _
   show WfE (opE op q.1)∧(szE (opE op q.1)).1≤cntE (d + 1)∧(szE (opE op q.1)).2≤d + 1 + 1
   rw [e]
   refine ⟨WfE.mk' (.inr (.inr ⟨p1,p2,rfl,rfl,rfl,rfl,m1.trans p3⟩)) (WfL.all (fun x hx=>(m2 x hx).1)),?_,?_⟩
   ·simp only [cntE]; omega
   ·simp only; omega
end Go.Proofs.YtjpgjnldeafpkaaGreat
namespace Go.Proofs.YtjpgjnldeafpkaaGreat
open Go.RowKit
theorem C0.of_draws {k:FuncId} {args:Array Value} {v:Value} (hc:∀ w,Calls Tryz.prog k args w (Draws v w)) (h:Vw):C0 Tryz.prog k args h (fun v' _=>v'=v):=by
 intro _ _ _ _
 refine (hc h.w).mono ?_
 rintro e w' ⟨rfl,n,rfl⟩
 exact ⟨v,[],rfl,⟨rfl,rfl,rfl,Nat.le_refl _,fun _ _ _=>rfl⟩,(fun x hx=>by cases hx),rfl,rfl⟩
def numF (op:Int):Nat:=if op=5 then 156 else if op=6 then 157 else if op=7 then 158 else if op=8 then 159 else 160
theorem num_any (op a b:Int) (h:Vw) (ha:Lim a) (hb:Lim b):C0 Tryz.prog (numF op) #[.int .i64 a,.int .i64 b] h (fun v _=>v=.tuple #[.int .i64 (fW op a b).1,.int .i64 (fW op a b).2]):=by
 unfold numF fW
 by_cases h5:op=5
 ·rw [if_pos h5,if_pos h5]
  by_cases hl : -1099511627776≤a * b∧a * b≤1099511627776
  ·rw [if_pos hl]; exact C0.of_same (fun w=>mul_ok a b _ w ha hb hl rfl) h
  ·rw [if_neg hl]; exact C0.of_same (fun w=>mul_over a b w ha hb hl) h
 ·rw [if_neg h5,if_neg h5]
  by_cases h6:op=6
  ·rw [if_pos h6,if_pos h6]
   by_cases hz:b=0
   ·subst hz; rw [if_pos rfl]; exact C0.of_same (fun w=>div_zero a w ha) h
   ·rw [if_neg hz]; exact C0.of_draws (fun w=>div_ok a b w ha hb hz) h
  ·rw [if_neg h6,if_neg h6]
   by_cases h7:op=7
   ·rw [if_pos h7,if_pos h7]
    by_cases hz:b=0
    ·subst hz; rw [if_pos rfl]; exact C0.of_same (fun w=>mod_zero a w ha) h
    ·rw [if_neg hz]; exact C0.of_draws (fun w=>mod_ok a b w ha hb hz) h
   ·rw [if_neg h7,if_neg h7]
    by_cases h8:op=8
    ·rw [if_pos h8,if_pos h8]
     by_cases hl : -1099511627776≤a + b∧a + b≤1099511627776
     ·rw [if_pos hl]; exact C0.of_same (fun w=>add_ok a b w ha hb hl) h
     ·rw [if_neg hl]; exact C0.of_same (fun w=>add_over a b w ha hb (by omega)) h
    ·rw [if_neg h8,if_neg h8]
     by_cases hl : -1099511627776≤a - b∧a - b≤1099511627776
     ·rw [if_pos hl]; exact C0.of_same (fun w=>sub_ok a b w ha hb hl) h
     ·rw [if_neg hl]; exact C0.of_same (fun w=>sub_over a b w ha hb (by omega)) h
theorem wK (e:Int) (h:Vw):C0 Tryz.prog 131 #[.int .i64 e] h (fun v _=>v=(vK e).val):=by
 refine mQ Tryz.func131 (c:=Tryz.f131.body.getD .skip) (N:=5) ?_
 intro hbx hbad Q hQ
 refine go1 13 [.own,.b 0 0] [] ?_
 intro b1
 refine hQ.to [.agg #[Vi 5,Vi e,Ve]] (fun H sH=>?_) (ix:=[0])
 exact rfl
theorem uY (b:Bool) (h:Vw):C0 Tryz.prog 154 #[.bool b] h (fun v _=>v=(truthV b).val):=by
 cases b
 ·refine mQ Tryz.func154 (c:=Tryz.f154.body.getD .skip) (N:=6) ?_
  intro hbx hbad Q hQ
  refine go1 21 [.own,.b 0 0] [] ?_
  intro b1
  refine hQ.to [.agg #[Vi 2,Vi 0,Ve]] (fun H sH=>?_) (ix:=[0])
  exact rfl
 ·refine mQ Tryz.func154 (c:=Tryz.f154.body.getD .skip) (N:=6) ?_
  intro hbx hbad Q hQ
  refine go1 20 [.own,.b 0 0] [] ?_
  intro b1
  refine hQ.to [.agg #[Vi 2,Vi 1,Ve]] (fun H sH=>?_) (ix:=[0])
  exact rfl
abbrev vrows (l:List Vl):List (List Value):=l.map Vl.cells
theorem nV (l:List Vl) (sl:Value) (kind:Int) (h:Vw) (hr:RS h 3 sl (vrows l)) (hl:l.length≤1000):C0 Tryz.prog 155 #[sl,.int .i64 kind] h (fun v _=>v=.bool (mV l kind)):=by
 obtain ⟨A,cap,rfl,-,-,-⟩:=hr.form
 rw [List.length_map] at *
 generalize hL:l.length=len at *
 refine mQ Tryz.func155 (c:=Tryz.f155.body.getD .skip) (N:=18) ?_
 intro hbx hbad Q hQ
 refine go0 14 [] [] ?_
 refine vQ [0,1,0,1] [.block 0,.seq [1,1]] (fun (k:Nat) X=>∃ (W1:Vw) ,X W1 [(1,Vi kind),(7,.slice A len cap),(8,Vi (len:Int)),(9,Vi (k:Int))] [] []∧Sees h W1∧(k≤len)∧(∀ v∈l.take k,v.k=kind)) (fun k=>len - k) (0) (fun X q=>⟨h,q _ _ _ _ ⟨rfl,by kernel_rfl⟩,Sees.refl _,Nat.zero_le _,by simp⟩) ?_
 rintro k a w ⟨W1,hJ,S2,hk,ha⟩; refine zQ hJ ?_; clear hJ a w
 refine go0 6 [] [] ?_
 rcases (by omega:k < len∨len=k) with hlt | hke
 ·obtain ⟨y,hy⟩:∃ y,l[k]?=some y:=⟨_,List.getElem?_eq_getElem (by omega)⟩
  have hrow:(vrows l)[k]?=some y.cells:=by rw [List.getElem?_map,hy]; rfl
  refine dV (t:=decide ((k:Int) < (len:Int))) (decide_eq_true (by omega)) ?_
  refine go0 6 [] [] ?_
  obtain ⟨b3,o4,rfl,-,c5⟩:=RS.row hr (hrow)
  refine nQ (c5.sees S2) ?_
  refine go1 14 [.ix b3 o4 len cap k,.f 0 0,.own,.b 0 0,.b 0 0] [] ?_ (ho:=(And.intro (by first | omega | (simp; omega)) (trivial)))
  intro b6
  by_cases hyk:y.k=kind
  ·skip
   refine oQ (t:=y.k != kind) (bne_eq_false_iff_eq.2 hyk) ?_
   refine go0 7 [] [(17,Vi (IntKind.i64.wrap ((k:Int) + 1)),Vi ((k:Int) + 1))] ?_ (hc:=(And.intro (jJ (by omega) (by omega)) (trivial)))
   exact cV (k + 1) (fun X q=>⟨W1,q _ _ _ _ ⟨rfl,by kernel_rfl⟩,S2,by omega,by rw [rY l k y hy]; intro v hv; rcases List.mem_append.1 hv with g | g; exact ha v g; rw [List.mem_singleton.1 g]; exact hyk⟩) (by omega)
  ·skip
   refine dV (t:=y.k != kind) (bne_iff_ne.2 hyk) ?_
   refine go0 8 [] [] ?_
   refine uQ ?_
   refine go0 2 [] [] ?_
   refine hQ.to [.bool false] (fun H sH=>?_)
   show Value.bool false=_
   have:mV l kind=false:=by
    unfold mV
    rw [List.all_eq_false]
    exact ⟨y,List.mem_of_getElem? hy,by simpa using hyk⟩
   rw [this]
 ·skip
  have hta:l.take k=l:=by rw [← hke,← hL,List.take_length]
  rw [hta] at ha
  refine oQ (t:=decide ((k:Int) < (len:Int))) (decide_eq_false (by omega)) ?_
  refine go0 2 [] [] ?_
  refine uQ ?_
  refine go0 8 [] [] ?_
  refine hQ.to [.bool true] (fun H sH=>?_)
  show Value.bool true=_
  have:mV l kind=true:=by
   unfold mV
   rw [List.all_eq_true]
   intro v hv; simpa using ha v hv
  rw [this]
theorem compare_other (v w':Vl) (h:Vw) (hv:v.known) (hw:w'.known) (hne:v.k≠w'.k):C0 Tryz.prog 153 #[v.val,w'.val] h (fun r _=>r=.tuple #[.int .i64 0,.int .i64 9]):=by
 have h1:=c_known v.k v.n v.s
 have h2:=c_known w'.k w'.n w'.s
 refine mQ Tryz.func153 (c:=Tryz.f153.body.getD .skip) (N:=33) ?_
 intro hbx hbad Q hQ
 refine go2 37 [.own,.own,.b 1 0,.cl 18 #[.agg #[Vi v.k,Vi v.n,.string v.s]] (.bool true),.b 0 0,.cl 18 #[.agg #[Vi w'.k,Vi w'.n,.string w'.s]] (.bool true),.b 1 0,.b 0 0] [(19,.bool (v.k != w'.k),.bool true)] ?_ (ho:=(And.intro (fun H sH=>h1 _ hv) (And.intro (fun H sH=>h2 _ hw) (trivial)))) (hc:=(And.intro (congrArg Value.bool (bne_iff_ne.2 hne)) (trivial)))
 intro b1 b2
 refine hQ.to [Vi 0,Vi 9] (fun H sH=>?_)
 exact rfl
theorem compare_any (v w':Vl) (h:Vw) (hv:v.known) (hw:w'.known):C0 Tryz.prog 153 #[v.val,w'.val] h (fun r _=>r=if v.k=w'.k then .tuple #[.int .i64 (cmpV v.n w'.n v.s.toList w'.s.toList),.int .i64 0] else .tuple #[.int .i64 0,.int .i64 9]):=by
 by_cases he:v.k=w'.k
 ·obtain ⟨k,n,s⟩:=v
  obtain ⟨k',n',s'⟩:=w'
  simp only at he
  subst he
  rw [if_pos rfl]
  exact C0.of_gives (fun w=>compare_known k n n' s s' w hv hw) h
 ·rw [if_neg he]; exact compare_other v w' h hv hw he
end Go.Proofs.YtjpgjnldeafpkaaGreat
namespace Go.Proofs.YtjpgjnldeafpkaaGreat
open Go.RowKit
theorem hd0 (x:Vl) (l:List Vl):hdV (x :: l) 0=x:=rfl
theorem hd1 (x y:Vl) (l:List Vl):hdV (x :: y :: l) 1=y:=rfl
theorem run_cat {t:TypeId} {a b:ByteArray} {w:World} (h:a.size + b.size≤1000):(binOp .add t (.string a) (.string b)).run Tryz.prog w=.ok (.string (a++b)) w:=by rw [binOp_string_add]; exact run_string_add_sum w a b (by omega)
theorem row0 {h:Vw} {x:Vl} {l:List Vl} {sl:Value} (hr:RS h 3 sl (vrows (x :: l))):∃ b o cap,sl=.slice (some ⟨b,o,none⟩) (l.length + 1) cap∧Cells h b (o + 0 * 3) x.cells:=by
 obtain ⟨A,cap,rfl,-,-,-⟩:=hr.form
 obtain ⟨b,o,rfl,-,c⟩:=hr.row (i:=0) (x:=x.cells) rfl
 refine ⟨b,o,cap,?_,c⟩
 simp
theorem oV {l:List Vl} (hk:∀ v∈l,v.known) (h:mV l 1=true):∀ v∈l,Lim v.n:=fun v hv=>by
 have h1:v.k=1:=by unfold mV at h; rw [List.all_eq_true] at h; simpa using h v hv
 rcases hk v hv with g | g | g
 ·exact g.2.1
 ·omega
 ·omega
theorem known_texts {l:List Vl} (hk:∀ v∈l,v.known) (h:mV l 3=true):∀ v∈l,v.s.size≤40:=fun v hv=>by
 have h1:v.k=3:=by unfold mV at h; rw [List.all_eq_true] at h; simpa using h v hv
 rcases hk v hv with g | g | g
 ·omega
 ·omega
 ·exact g.2.2.1
def cmpP (x y:Vl):Int × Int:=if x.k=y.k then (cmpV x.n y.n x.s.toList y.s.toList,0) else (0,9)
theorem cmp2 (x y:Vl) (h:Vw) (hx:x.known) (hy:y.known):C0 Tryz.prog 153 #[x.val,y.val] h (fun r _=>r=.tuple #[.int .i64 (cmpP x y).1,.int .i64 (cmpP x y).2]):=by
 have:=compare_any x y h hx hy
 unfold cmpP
 by_cases he:x.k=y.k
 ·simp only [if_pos he] at this ⊢; exact this
 ·simp only [if_neg he] at this ⊢; exact this
theorem apply_11 (x y:Vl) (sl:Value) (h:Vw) (hr:RS h 3 sl (vrows [x,y])) (hk:∀ v∈[x,y],v.known):C0 Tryz.prog 135 #[.int .i64 11,sl] h (fun v _=>v=(nJ 11 [x,y]).val):=by
 obtain ⟨b,o,cap,rfl,c0⟩:=row0 hr
 have kx:=hk x (by simp)
 have ky:=hk y (by simp)
 have c1:Cells h b (o + 1 * 3) y.cells:=hr.cell (i:=1) rfl
 have hcp:=fun H=>cmp2 x y H kx ky
 have hap:nJ 11 [x,y]=if x.k=y.k then truthV (cmpB 11 (cmpV x.n y.n x.s.toList y.s.toList)) else vK 9:=by unfold nJ; rw [if_pos (by omega),hd0,hd1]
 have hp:(x.k=y.k→cmpP x y=(cmpV x.n y.n x.s.toList y.s.toList,0))∧(x.k≠y.k→cmpP x y=(0,9)):=⟨fun e=>if_pos e,fun e=>if_neg e⟩
 generalize cmpP x y=p at *
 refine mQ Tryz.func135 (c:=Tryz.f135.body.getD .skip) (N:=147) ?_
 intro hbx hbad Q hQ
 refine nQ (c0.sees (Sees.refl _)) ?_
 refine nQ (c1.sees (Sees.refl _)) ?_
 refine go1 24 [.own] [] ?_
 intro b1
 refine aV 12 0 [.pu,.v (fun gh=>.pointer (some ⟨b,o + 0 * 3,none⟩)),.lf 1 0,.pu,.v (fun gh=>.pointer (some ⟨b,o + 1 * 3,none⟩)),.lf 0 0,.v (fun gh=>.tuple #[Vi p.1,Vi p.2]),.pu,.pu,.pu,.pu,.pu] [] (trivial) ?_ ?_
 ·intro R hT hA hmono
  refine And.intro (qY hT hA b o 2 cap 0 (fun gh=>.pointer (some ⟨b,o + 0 * 3,none⟩)) ((by decide))) ?_
  refine And.intro (qY hT hA b o 2 cap 1 (fun gh=>.pointer (some ⟨b,o + 1 * 3,none⟩)) ((by decide))) ?_
  refine And.intro (t_v hT hA hmono (k:=153) (args:=(fun gh=>#[.agg #[Vi x.k,Vi x.n,.string x.s],.agg #[Vi y.k,Vi y.n,.string y.s]])) (f:=fun gh=>.tuple #[Vi p.1,Vi p.2]) (fun gh H sH fH lent=>hcp _)) ?_
  trivial
 rintro W2 S3 -
 refine go0 8 [] [] ?_
 by_cases he:x.k=y.k
 ·have e:=hp.1 he
  refine oQ (t:=p.2 != 0) ((by rw [e]; rfl)) ?_
  refine go0 11 [] [] ?_
  by_cases hc:p.1 < 0
  ·refine g_rew 38 (v:=.bool (decide (p.1 < 0))) (v':=.bool true) (congrArg Value.bool (decide_eq_true hc)) ?_
   refine go0 30 [.cl 154 #[.bool true] (.agg #[Vi 2,Vi 1,Ve]),.b 0 0] [] ?_ (ho:=(And.intro (fun H sH=>uY true _) (trivial)))
   rw [e] at hc
   have hb:cmpB 11 (cmpV x.n y.n x.s.toList y.s.toList)=true:=by simp only at hc; simp [cmpB,hc]
   refine hQ.to [.agg #[Vi 2,Vi 1,Ve]] (fun H sH=>?_) (ix:=[0])
   rw [hap,if_pos he,hb]; rfl
  ·skip
   refine g_rew 38 (v:=.bool (decide (p.1 < 0))) (v':=.bool false) (congrArg Value.bool (decide_eq_false hc)) ?_
   refine go0 30 [.cl 154 #[.bool false] (.agg #[Vi 2,Vi 0,Ve]),.b 0 0] [] ?_ (ho:=(And.intro (fun H sH=>uY false _) (trivial)))
   rw [e] at hc
   have hb:cmpB 11 (cmpV x.n y.n x.s.toList y.s.toList)=false:=by simp only at hc; simp [cmpB,hc]
   refine hQ.to [.agg #[Vi 2,Vi 0,Ve]] (fun H sH=>?_) (ix:=[0])
   rw [hap,if_pos he,hb]; rfl
 ·skip
  have e:=hp.2 he
  refine dV (t:=p.2 != 0) ((by rw [e]; rfl)) ?_
  refine go0 11 [.cl 131 #[Vi p.2] (.agg #[Vi 5,Vi p.2,Ve]),.b 0 0] [] ?_ (ho:=(And.intro (fun H sH=>wK _ _) (trivial)))
  refine hQ.to [.agg #[Vi 5,Vi p.2,Ve]] (fun H sH=>?_) (ix:=[0])
  rw [hap,if_neg he,e]; rfl
theorem apply_12 (x y:Vl) (sl:Value) (h:Vw) (hr:RS h 3 sl (vrows [x,y])) (hk:∀ v∈[x,y],v.known):C0 Tryz.prog 135 #[.int .i64 12,sl] h (fun v _=>v=(nJ 12 [x,y]).val):=by
 obtain ⟨b,o,cap,rfl,c0⟩:=row0 hr
 have kx:=hk x (by simp)
 have ky:=hk y (by simp)
 have c1:Cells h b (o + 1 * 3) y.cells:=hr.cell (i:=1) rfl
 have hcp:=fun H=>cmp2 x y H kx ky
 have hap:nJ 12 [x,y]=if x.k=y.k then truthV (cmpB 12 (cmpV x.n y.n x.s.toList y.s.toList)) else vK 9:=by unfold nJ; rw [if_pos (by omega),hd0,hd1]
 have hp:(x.k=y.k→cmpP x y=(cmpV x.n y.n x.s.toList y.s.toList,0))∧(x.k≠y.k→cmpP x y=(0,9)):=⟨fun e=>if_pos e,fun e=>if_neg e⟩
 generalize cmpP x y=p at *
 refine mQ Tryz.func135 (c:=Tryz.f135.body.getD .skip) (N:=147) ?_
 intro hbx hbad Q hQ
 refine nQ (c0.sees (Sees.refl _)) ?_
 refine nQ (c1.sees (Sees.refl _)) ?_
 refine go1 31 [.own] [] ?_
 intro b1
 refine aV 12 0 [.pu,.v (fun gh=>.pointer (some ⟨b,o + 0 * 3,none⟩)),.lf 1 0,.pu,.v (fun gh=>.pointer (some ⟨b,o + 1 * 3,none⟩)),.lf 0 0,.v (fun gh=>.tuple #[Vi p.1,Vi p.2]),.pu,.pu,.pu,.pu,.pu] [] (trivial) ?_ ?_
 ·intro R hT hA hmono
  refine And.intro (qY hT hA b o 2 cap 0 (fun gh=>.pointer (some ⟨b,o + 0 * 3,none⟩)) ((by decide))) ?_
  refine And.intro (qY hT hA b o 2 cap 1 (fun gh=>.pointer (some ⟨b,o + 1 * 3,none⟩)) ((by decide))) ?_
  refine And.intro (t_v hT hA hmono (k:=153) (args:=(fun gh=>#[.agg #[Vi x.k,Vi x.n,.string x.s],.agg #[Vi y.k,Vi y.n,.string y.s]])) (f:=fun gh=>.tuple #[Vi p.1,Vi p.2]) (fun gh H sH fH lent=>hcp _)) ?_
  trivial
 rintro W2 S3 -
 refine go0 8 [] [] ?_
 by_cases he:x.k=y.k
 ·have e:=hp.1 he
  refine oQ (t:=p.2 != 0) ((by rw [e]; rfl)) ?_
  refine go0 19 [] [] ?_
  by_cases hc:p.1≤0
  ·refine g_rew 46 (v:=.bool (decide (p.1≤0))) (v':=.bool true) (congrArg Value.bool (decide_eq_true hc)) ?_
   refine go0 22 [.cl 154 #[.bool true] (.agg #[Vi 2,Vi 1,Ve]),.b 0 0] [] ?_ (ho:=(And.intro (fun H sH=>uY true _) (trivial)))
   rw [e] at hc
   have hb:cmpB 12 (cmpV x.n y.n x.s.toList y.s.toList)=true:=by simp only at hc; simp [cmpB,hc]
   refine hQ.to [.agg #[Vi 2,Vi 1,Ve]] (fun H sH=>?_) (ix:=[0])
   rw [hap,if_pos he,hb]; rfl
  ·skip
   refine g_rew 46 (v:=.bool (decide (p.1≤0))) (v':=.bool false) (congrArg Value.bool (decide_eq_false hc)) ?_
   refine go0 22 [.cl 154 #[.bool false] (.agg #[Vi 2,Vi 0,Ve]),.b 0 0] [] ?_ (ho:=(And.intro (fun H sH=>uY false _) (trivial)))
   rw [e] at hc
   have hb:cmpB 12 (cmpV x.n y.n x.s.toList y.s.toList)=false:=by simp only at hc; simp [cmpB,hc]
   refine hQ.to [.agg #[Vi 2,Vi 0,Ve]] (fun H sH=>?_) (ix:=[0])
   rw [hap,if_pos he,hb]; rfl
 ·skip
  have e:=hp.2 he
  refine dV (t:=p.2 != 0) ((by rw [e]; rfl)) ?_
  refine go0 11 [.cl 131 #[Vi p.2] (.agg #[Vi 5,Vi p.2,Ve]),.b 0 0] [] ?_ (ho:=(And.intro (fun H sH=>wK _ _) (trivial)))
  refine hQ.to [.agg #[Vi 5,Vi p.2,Ve]] (fun H sH=>?_) (ix:=[0])
  rw [hap,if_neg he,e]; rfl
theorem apply_13 (x y:Vl) (sl:Value) (h:Vw) (hr:RS h 3 sl (vrows [x,y])) (hk:∀ v∈[x,y],v.known):C0 Tryz.prog 135 #[.int .i64 13,sl] h (fun v _=>v=(nJ 13 [x,y]).val):=by
 obtain ⟨b,o,cap,rfl,c0⟩:=row0 hr
 have kx:=hk x (by simp)
 have ky:=hk y (by simp)
 have c1:Cells h b (o + 1 * 3) y.cells:=hr.cell (i:=1) rfl
 have hcp:=fun H=>cmp2 x y H kx ky
 have hap:nJ 13 [x,y]=if x.k=y.k then truthV (cmpB 13 (cmpV x.n y.n x.s.toList y.s.toList)) else vK 9:=by unfold nJ; rw [if_pos (by omega),hd0,hd1]
 have hp:(x.k=y.k→cmpP x y=(cmpV x.n y.n x.s.toList y.s.toList,0))∧(x.k≠y.k→cmpP x y=(0,9)):=⟨fun e=>if_pos e,fun e=>if_neg e⟩
 generalize cmpP x y=p at *
 refine mQ Tryz.func135 (c:=Tryz.f135.body.getD .skip) (N:=147) ?_
 intro hbx hbad Q hQ
 refine nQ (c0.sees (Sees.refl _)) ?_
 refine nQ (c1.sees (Sees.refl _)) ?_
 refine go1 38 [.own] [] ?_
 intro b1
 refine aV 12 0 [.pu,.v (fun gh=>.pointer (some ⟨b,o + 0 * 3,none⟩)),.lf 1 0,.pu,.v (fun gh=>.pointer (some ⟨b,o + 1 * 3,none⟩)),.lf 0 0,.v (fun gh=>.tuple #[Vi p.1,Vi p.2]),.pu,.pu,.pu,.pu,.pu] [] (trivial) ?_ ?_
 ·intro R hT hA hmono
  refine And.intro (qY hT hA b o 2 cap 0 (fun gh=>.pointer (some ⟨b,o + 0 * 3,none⟩)) ((by decide))) ?_
  refine And.intro (qY hT hA b o 2 cap 1 (fun gh=>.pointer (some ⟨b,o + 1 * 3,none⟩)) ((by decide))) ?_
  refine And.intro (t_v hT hA hmono (k:=153) (args:=(fun gh=>#[.agg #[Vi x.k,Vi x.n,.string x.s],.agg #[Vi y.k,Vi y.n,.string y.s]])) (f:=fun gh=>.tuple #[Vi p.1,Vi p.2]) (fun gh H sH fH lent=>hcp _)) ?_
  trivial
 rintro W2 S3 -
 refine go0 8 [] [] ?_
 by_cases he:x.k=y.k
 ·have e:=hp.1 he
  refine oQ (t:=p.2 != 0) ((by rw [e]; rfl)) ?_
  refine go0 27 [] [] ?_
  by_cases hc:p.1=0
  ·refine g_rew 54 (v:=.bool (p.1 == 0)) (v':=.bool true) (congrArg Value.bool (beq_iff_eq.2 hc)) ?_
   refine go0 14 [.cl 154 #[.bool true] (.agg #[Vi 2,Vi 1,Ve]),.b 0 0] [] ?_ (ho:=(And.intro (fun H sH=>uY true _) (trivial)))
   rw [e] at hc
   have hb:cmpB 13 (cmpV x.n y.n x.s.toList y.s.toList)=true:=by simp only at hc; simp [cmpB,hc]
   refine hQ.to [.agg #[Vi 2,Vi 1,Ve]] (fun H sH=>?_) (ix:=[0])
   rw [hap,if_pos he,hb]; rfl
  ·skip
   refine g_rew 54 (v:=.bool (p.1 == 0)) (v':=.bool false) (congrArg Value.bool (beq_eq_false_iff_ne.2 hc)) ?_
   refine go0 14 [.cl 154 #[.bool false] (.agg #[Vi 2,Vi 0,Ve]),.b 0 0] [] ?_ (ho:=(And.intro (fun H sH=>uY false _) (trivial)))
   rw [e] at hc
   have hb:cmpB 13 (cmpV x.n y.n x.s.toList y.s.toList)=false:=by simp only at hc; simp [cmpB,hc]
   refine hQ.to [.agg #[Vi 2,Vi 0,Ve]] (fun H sH=>?_) (ix:=[0])
   rw [hap,if_pos he,hb]; rfl
 ·skip
  have e:=hp.2 he
  refine dV (t:=p.2 != 0) ((by rw [e]; rfl)) ?_
  refine go0 11 [.cl 131 #[Vi p.2] (.agg #[Vi 5,Vi p.2,Ve]),.b 0 0] [] ?_ (ho:=(And.intro (fun H sH=>wK _ _) (trivial)))
  refine hQ.to [.agg #[Vi 5,Vi p.2,Ve]] (fun H sH=>?_) (ix:=[0])
  rw [hap,if_neg he,e]; rfl
theorem apply_14 (x y:Vl) (sl:Value) (h:Vw) (hr:RS h 3 sl (vrows [x,y])) (hk:∀ v∈[x,y],v.known):C0 Tryz.prog 135 #[.int .i64 14,sl] h (fun v _=>v=(nJ 14 [x,y]).val):=by
 obtain ⟨b,o,cap,rfl,c0⟩:=row0 hr
 have kx:=hk x (by simp)
 have ky:=hk y (by simp)
 have c1:Cells h b (o + 1 * 3) y.cells:=hr.cell (i:=1) rfl
 have hcp:=fun H=>cmp2 x y H kx ky
 have hap:nJ 14 [x,y]=if x.k=y.k then truthV (cmpB 14 (cmpV x.n y.n x.s.toList y.s.toList)) else vK 9:=by unfold nJ; rw [if_pos (by omega),hd0,hd1]
 have hp:(x.k=y.k→cmpP x y=(cmpV x.n y.n x.s.toList y.s.toList,0))∧(x.k≠y.k→cmpP x y=(0,9)):=⟨fun e=>if_pos e,fun e=>if_neg e⟩
 generalize cmpP x y=p at *
 refine mQ Tryz.func135 (c:=Tryz.f135.body.getD .skip) (N:=147) ?_
 intro hbx hbad Q hQ
 refine nQ (c0.sees (Sees.refl _)) ?_
 refine nQ (c1.sees (Sees.refl _)) ?_
 refine go1 41 [.own] [] ?_
 intro b1
 refine aV 12 0 [.pu,.v (fun gh=>.pointer (some ⟨b,o + 0 * 3,none⟩)),.lf 1 0,.pu,.v (fun gh=>.pointer (some ⟨b,o + 1 * 3,none⟩)),.lf 0 0,.v (fun gh=>.tuple #[Vi p.1,Vi p.2]),.pu,.pu,.pu,.pu,.pu] [] (trivial) ?_ ?_
 ·intro R hT hA hmono
  refine And.intro (qY hT hA b o 2 cap 0 (fun gh=>.pointer (some ⟨b,o + 0 * 3,none⟩)) ((by decide))) ?_
  refine And.intro (qY hT hA b o 2 cap 1 (fun gh=>.pointer (some ⟨b,o + 1 * 3,none⟩)) ((by decide))) ?_
  refine And.intro (t_v hT hA hmono (k:=153) (args:=(fun gh=>#[.agg #[Vi x.k,Vi x.n,.string x.s],.agg #[Vi y.k,Vi y.n,.string y.s]])) (f:=fun gh=>.tuple #[Vi p.1,Vi p.2]) (fun gh H sH fH lent=>hcp _)) ?_
  trivial
 rintro W2 S3 -
 refine go0 8 [] [] ?_
 by_cases he:x.k=y.k
 ·have e:=hp.1 he
  refine oQ (t:=p.2 != 0) ((by rw [e]; rfl)) ?_
  refine go0 34 [] [] ?_
  by_cases hc:p.1≠0
  ·refine g_rew 61 (v:=.bool (p.1 != 0)) (v':=.bool true) (congrArg Value.bool (bne_iff_ne.2 hc)) ?_
   refine go0 7 [.cl 154 #[.bool true] (.agg #[Vi 2,Vi 1,Ve]),.b 0 0] [] ?_ (ho:=(And.intro (fun H sH=>uY true _) (trivial)))
   rw [e] at hc
   have hb:cmpB 14 (cmpV x.n y.n x.s.toList y.s.toList)=true:=by simp only at hc; simp [cmpB,hc]
   refine hQ.to [.agg #[Vi 2,Vi 1,Ve]] (fun H sH=>?_) (ix:=[0])
   rw [hap,if_pos he,hb]; rfl
  ·skip
   refine g_rew 61 (v:=.bool (p.1 != 0)) (v':=.bool false) (congrArg Value.bool (bne_eq_false_iff_eq.2 (Decidable.not_not.1 hc))) ?_
   refine go0 7 [.cl 154 #[.bool false] (.agg #[Vi 2,Vi 0,Ve]),.b 0 0] [] ?_ (ho:=(And.intro (fun H sH=>uY false _) (trivial)))
   rw [e] at hc
   have hb:cmpB 14 (cmpV x.n y.n x.s.toList y.s.toList)=false:=by simp only at hc; simp [cmpB,Decidable.not_not.1 hc]
   refine hQ.to [.agg #[Vi 2,Vi 0,Ve]] (fun H sH=>?_) (ix:=[0])
   rw [hap,if_pos he,hb]; rfl
 ·skip
  have e:=hp.2 he
  refine dV (t:=p.2 != 0) ((by rw [e]; rfl)) ?_
  refine go0 11 [.cl 131 #[Vi p.2] (.agg #[Vi 5,Vi p.2,Ve]),.b 0 0] [] ?_ (ho:=(And.intro (fun H sH=>wK _ _) (trivial)))
  refine hQ.to [.agg #[Vi 5,Vi p.2,Ve]] (fun H sH=>?_) (ix:=[0])
  rw [hap,if_neg he,e]; rfl
theorem apply_4 (x:Vl) (sl:Value) (h:Vw) (hr:RS h 3 sl (vrows [x])) (hk:∀ v∈[x],v.known):C0 Tryz.prog 135 #[.int .i64 4,sl] h (fun v _=>v=(nJ 4 [x]).val):=by
 obtain ⟨b,o,cap,rfl,c0⟩:=row0 hr
 have kx:=hk x (by simp)
 have hki:=fun H hq kd=>nV [x] (.slice (some ⟨b,o,none⟩) 1 cap) kd H hq (by simp)
 by_cases hq:mV [x] 2=true
 ·rw [show nJ 4 [x]=truthV (x.n == 0) from by unfold nJ; rw [if_neg (by omega),if_pos rfl,hd0,if_pos hq]]
  refine mQ Tryz.func135 (c:=Tryz.f135.body.getD .skip) (N:=147) ?_
  intro hbx hbad Q hQ
  refine nQ (c0.sees (Sees.refl _)) ?_
  refine go1 72 [.own,.cl 155 #[.slice (some ⟨b,o,none⟩) 1 cap,Vi 2] (.bool true),.ix b o 1 cap 0,.f 0 1,.cl 154 #[.bool (x.n == 0)] (.agg #[Vi 2,Vi (if (x.n == 0)=true then 1 else 0),Ve]),.b 0 0] [] ?_ (ho:=(And.intro (fun H sH=>hq ▸ hki _ (hr.sees sH) 2) (And.intro ((by decide)) (And.intro (fun H sH=>uY (x.n == 0) _) (trivial)))))
  intro b1
  refine hQ.to [.agg #[Vi 2,Vi (if (x.n == 0)=true then 1 else 0),Ve]] (fun H sH=>?_) (ix:=[0])
  exact rfl
 ·have hq':mV [x] 2=false:=by simpa using hq
  rw [show nJ 4 [x]=vK 9 from by unfold nJ; rw [if_neg (by omega),if_pos rfl,hd0,if_neg hq]]
  refine mQ Tryz.func135 (c:=Tryz.f135.body.getD .skip) (N:=147) ?_
  intro hbx hbad Q hQ
  refine nQ (c0.sees (Sees.refl _)) ?_
  refine go1 66 [.own,.cl 155 #[.slice (some ⟨b,o,none⟩) 1 cap,Vi 2] (.bool false),.cl 131 #[Vi 9] (.agg #[Vi 5,Vi 9,Ve]),.b 0 0] [] ?_ (ho:=(And.intro (fun H sH=>hq' ▸ hki _ (hr.sees sH) 2) (And.intro (fun H sH=>wK 9 _) (trivial))))
  intro b1
  refine hQ.to [.agg #[Vi 5,Vi 9,Ve]] (fun H sH=>?_) (ix:=[0])
  exact rfl
theorem apply_18 (x:Vl) (sl:Value) (h:Vw) (hr:RS h 3 sl (vrows [x])) (hk:∀ v∈[x],v.known):C0 Tryz.prog 135 #[.int .i64 18,sl] h (fun v _=>v=(nJ 18 [x]).val):=by
 obtain ⟨b,o,cap,rfl,c0⟩:=row0 hr
 have kx:=hk x (by simp)
 have hki:=fun H hq kd=>nV [x] (.slice (some ⟨b,o,none⟩) 1 cap) kd H hq (by simp)
 by_cases hq:mV [x] 3=true
 ·have hsz:=known_texts hk hq x (by simp)
  rw [show nJ 18 [x]=⟨1,(x.s.size:Int),⟨#[]⟩⟩ from by unfold nJ; rw [if_neg (by omega),if_neg (by omega),if_pos rfl,hd0,if_pos hq]]
  refine mQ Tryz.func135 (c:=Tryz.f135.body.getD .skip) (N:=147) ?_
  intro hbx hbad Q hQ
  refine nQ (c0.sees (Sees.refl _)) ?_
  refine go1 95 [.own,.cl 155 #[.slice (some ⟨b,o,none⟩) 1 cap,Vi 3] (.bool true),.ix b o 1 cap 0,.f 0 2,.b 0 0] [] ?_ (ho:=(And.intro (fun H sH=>hq ▸ hki _ (hr.sees sH) 3) (And.intro ((by decide)) (trivial))))
  intro b1
  refine hQ.to [.agg #[Vi 1,Vi (x.s.size:Int),Ve]] (fun H sH=>?_) (ix:=[0])
  exact rfl
 ·have hq':mV [x] 3=false:=by simpa using hq
  rw [show nJ 18 [x]=vK 9 from by unfold nJ; rw [if_neg (by omega),if_neg (by omega),if_pos rfl,hd0,if_neg hq]]
  refine mQ Tryz.func135 (c:=Tryz.f135.body.getD .skip) (N:=147) ?_
  intro hbx hbad Q hQ
  refine nQ (c0.sees (Sees.refl _)) ?_
  refine go1 80 [.own,.cl 155 #[.slice (some ⟨b,o,none⟩) 1 cap,Vi 3] (.bool false),.cl 131 #[Vi 9] (.agg #[Vi 5,Vi 9,Ve]),.b 0 0] [] ?_ (ho:=(And.intro (fun H sH=>hq' ▸ hki _ (hr.sees sH) 3) (And.intro (fun H sH=>wK 9 _) (trivial))))
  intro b1
  refine hQ.to [.agg #[Vi 5,Vi 9,Ve]] (fun H sH=>?_) (ix:=[0])
  exact rfl
theorem apply_10 (x y:Vl) (sl:Value) (h:Vw) (hr:RS h 3 sl (vrows [x,y])) (hk:∀ v∈[x,y],v.known):C0 Tryz.prog 135 #[.int .i64 10,sl] h (fun v _=>v=(nJ 10 [x,y]).val):=by
 obtain ⟨b,o,cap,rfl,c0⟩:=row0 hr
 have kx:=hk x (by simp)
 have ky:=hk y (by simp)
 have c1:Cells h b (o + 1 * 3) y.cells:=hr.cell (i:=1) rfl
 have hki:=fun H hq kd=>nV [x,y] (.slice (some ⟨b,o,none⟩) 2 cap) kd H hq (by simp)
 by_cases hq:mV [x,y] 3=true
 ·have hsx:=known_texts hk hq x (by simp)
  have hsy:=known_texts hk hq y (by simp)
  rw [show nJ 10 [x,y]=joinV x y from by unfold nJ; rw [if_neg (by omega),if_neg (by omega),if_neg (by omega),if_pos rfl,hd0,hd1,if_pos hq]]
  by_cases hc:40 < x.s.size + y.s.size
  ·rw [show joinV x y=vK 1 from if_pos hc]
   refine mQ Tryz.func135 (c:=Tryz.f135.body.getD .skip) (N:=147) ?_
   intro hbx hbad Q hQ
   refine nQ (c0.sees (Sees.refl _)) ?_
   refine nQ (c1.sees (Sees.refl _)) ?_
   refine go1 81 [.own,.cl 155 #[.slice (some ⟨b,o,none⟩) 2 cap,Vi 3] (.bool true)] [] ?_ (ho:=(And.intro (fun H sH=>hq ▸ hki _ (hr.sees sH) 3) (trivial)))
   intro b1
   refine aV 12 0 [.pu,.v (fun gh=>.pointer (some ⟨b,o + 0 * 3,none⟩)),.pu,.lf 1 2,.pu,.pu,.v (fun gh=>.pointer (some ⟨b,o + 1 * 3,none⟩)),.pu,.lf 0 2,.pu,.v (fun gh=>Vi ((x.s.size:Int) + (y.s.size:Int))),.pu] [] (trivial) ?_ ?_
   ·intro R hT hA hmono
    refine And.intro (qY hT hA b o 2 cap 0 (fun gh=>.pointer (some ⟨b,o + 0 * 3,none⟩)) ((by decide))) ?_
    refine And.intro (qY hT hA b o 2 cap 1 (fun gh=>.pointer (some ⟨b,o + 1 * 3,none⟩)) ((by decide))) ?_
    refine And.intro (t_p hT hA (fun gh=>Vi ((x.s.size:Int) + (y.s.size:Int))) (fun gh w=>uX (by kernel_rfl) (jJ (by omega) (by omega)))) ?_
    trivial
   rintro W2 S3 -
   refine go0 1 [] [] ?_
   refine dV (t:=decide (((x.s.size:Int) + (y.s.size:Int)) > 40)) (decide_eq_true (by omega)) ?_
   refine go0 10 [.cl 131 #[Vi 1] (.agg #[Vi 5,Vi 1,Ve]),.b 0 0] [] ?_ (ho:=(And.intro (fun H sH=>wK 1 _) (trivial)))
   refine hQ.to [.agg #[Vi 5,Vi 1,Ve]] (fun H sH=>?_) (ix:=[0])
   exact rfl
  ·rw [show joinV x y=⟨3,0,x.s++y.s⟩ from if_neg hc]
   refine mQ Tryz.func135 (c:=Tryz.f135.body.getD .skip) (N:=147) ?_
   intro hbx hbad Q hQ
   refine nQ (c0.sees (Sees.refl _)) ?_
   refine nQ (c1.sees (Sees.refl _)) ?_
   refine go1 81 [.own,.cl 155 #[.slice (some ⟨b,o,none⟩) 2 cap,Vi 3] (.bool true)] [] ?_ (ho:=(And.intro (fun H sH=>hq ▸ hki _ (hr.sees sH) 3) (trivial)))
   intro b1
   refine aV 12 0 [.pu,.v (fun gh=>.pointer (some ⟨b,o + 0 * 3,none⟩)),.pu,.lf 1 2,.pu,.pu,.v (fun gh=>.pointer (some ⟨b,o + 1 * 3,none⟩)),.pu,.lf 0 2,.pu,.v (fun gh=>Vi ((x.s.size:Int) + (y.s.size:Int))),.pu] [] (trivial) ?_ ?_
   ·intro R hT hA hmono
    refine And.intro (qY hT hA b o 2 cap 0 (fun gh=>.pointer (some ⟨b,o + 0 * 3,none⟩)) ((by decide))) ?_
    refine And.intro (qY hT hA b o 2 cap 1 (fun gh=>.pointer (some ⟨b,o + 1 * 3,none⟩)) ((by decide))) ?_
    refine And.intro (t_p hT hA (fun gh=>Vi ((x.s.size:Int) + (y.s.size:Int))) (fun gh w=>uX (by kernel_rfl) (jJ (by omega) (by omega)))) ?_
    trivial
   rintro W2 S3 -
   refine go0 1 [] [] ?_
   refine oQ (t:=decide (((x.s.size:Int) + (y.s.size:Int)) > 40)) (decide_eq_false (by omega)) ?_
   refine go0 3 [] [] ?_
   refine aV 11 0 [.pu,.v (fun gh=>.pointer (some ⟨b,o + 0 * 3,none⟩)),.pu,.lf 1 2,.pu,.v (fun gh=>.pointer (some ⟨b,o + 1 * 3,none⟩)),.pu,.lf 0 2,.v (fun gh=>.string (x.s++y.s)),.pu,.st 0 0] [] (trivial) ?_ ?_
   ·intro R hT hA hmono
    refine And.intro (qY hT hA b o 2 cap 0 (fun gh=>.pointer (some ⟨b,o + 0 * 3,none⟩)) ((by decide))) ?_
    refine And.intro (qY hT hA b o 2 cap 1 (fun gh=>.pointer (some ⟨b,o + 1 * 3,none⟩)) ((by decide))) ?_
    refine And.intro (t_p hT hA (fun gh=>.string (x.s++y.s)) (fun gh w=>run_bin (op:=.add) (t:=9) (x:=(.tmp 106)) (y:=(.tmp 110)) (yt:=9) (va:=.string x.s) (vb:=.string y.s) (by kernel_rfl) (by kernel_rfl) (by kernel_rfl) (by kernel_rfl) (run_cat (by omega)))) ?_
    trivial
   rintro W4 S5 -
   refine go0 4 [] [] ?_
   refine hQ.to [.agg #[Vi 3,Vi 0,.string (x.s++y.s)]] (fun H sH=>?_) (ix:=[0])
   exact rfl
 ·have hq':mV [x,y] 3=false:=by simpa using hq
  rw [show nJ 10 [x,y]=vK 9 from by unfold nJ; rw [if_neg (by omega),if_neg (by omega),if_neg (by omega),if_pos rfl,hd0,hd1,if_neg hq]]
  refine mQ Tryz.func135 (c:=Tryz.f135.body.getD .skip) (N:=147) ?_
  intro hbx hbad Q hQ
  refine nQ (c0.sees (Sees.refl _)) ?_
  refine nQ (c1.sees (Sees.refl _)) ?_
  refine go1 77 [.own,.cl 155 #[.slice (some ⟨b,o,none⟩) 2 cap,Vi 3] (.bool false),.cl 131 #[Vi 9] (.agg #[Vi 5,Vi 9,Ve]),.b 0 0] [] ?_ (ho:=(And.intro (fun H sH=>hq' ▸ hki _ (hr.sees sH) 3) (And.intro (fun H sH=>wK 9 _) (trivial))))
  intro b1
  refine hQ.to [.agg #[Vi 5,Vi 9,Ve]] (fun H sH=>?_) (ix:=[0])
  exact rfl
theorem apply_3 (x:Vl) (sl:Value) (h:Vw) (hr:RS h 3 sl (vrows [x])) (hk:∀ v∈[x],v.known):C0 Tryz.prog 135 #[.int .i64 3,sl] h (fun v _=>v=(nJ 3 [x]).val):=by
 obtain ⟨b,o,cap,rfl,c0⟩:=row0 hr
 have kx:=hk x (by simp)
 have hki:=fun H hq=>nV [x] (.slice (some ⟨b,o,none⟩) 1 cap) 1 H hq (by simp)
 have hap:nJ 3 [x]=if mV [x] 1=true then nrV 9 0 x.n else vK 9:=by unfold nJ; rw [if_neg (by omega),if_neg (by omega),if_neg (by omega),if_neg (by omega),if_pos rfl,hd0]
 have hnr:nrV 9 0 x.n=if (fW 9 0 x.n).2=0 then ⟨1,(fW 9 0 x.n).1,⟨#[]⟩⟩ else vK (fW 9 0 x.n).2:=rfl
 rw [hnr] at hap
 have hl:=fun q=>oV (l:=[x]) hk q
 have hn:=fun (q:mV [x] 1=true) H=>num_any 9 0 x.n H (by unfold Lim; omega) (hl q x (by simp))
 generalize fW 9 0 x.n=r at *
 generalize mV [x] 1=kv at *
 refine mQ Tryz.func135 (c:=Tryz.f135.body.getD .skip) (N:=147) ?_
 intro hbx hbad Q hQ
 refine nQ (c0.sees (Sees.refl _)) ?_
 refine go1 72 [.own,.cl 155 #[.slice (some ⟨b,o,none⟩) 1 cap,Vi 1] (.bool kv)] [] ?_ (ho:=(And.intro (fun H sH=>hki _ (hr.sees sH)) (trivial)))
 intro b1
 by_cases hq:kv=true
 ·skip
  refine oQ (t := !kv) ((by rw [hq]; rfl)) ?_
  refine go0 4 [] [] ?_
  refine g_mapmake ?_; intro b2
  refine xQ 0 b2 (es:=[]) (td:=.int .i64) (key:=Vi 5) (by kernel_rfl) ?_
  refine xQ 0 b2 (es:=[(Vi 5,.func (.func 156) #[] #[])]) (td:=.int .i64) (key:=Vi 6) (by kernel_rfl) ?_
  refine xQ 0 b2 (es:=[(Vi 5,.func (.func 156) #[] #[]),(Vi 6,.func (.func 157) #[] #[])]) (td:=.int .i64) (key:=Vi 7) (by kernel_rfl) ?_
  refine xQ 0 b2 (es:=[(Vi 5,.func (.func 156) #[] #[]),(Vi 6,.func (.func 157) #[] #[]),(Vi 7,.func (.func 158) #[] #[])]) (td:=.int .i64) (key:=Vi 8) (by kernel_rfl) ?_
  refine xQ 0 b2 (es:=[(Vi 5,.func (.func 156) #[] #[]),(Vi 6,.func (.func 157) #[] #[]),(Vi 7,.func (.func 158) #[] #[]),(Vi 8,.func (.func 159) #[] #[])]) (td:=.int .i64) (key:=Vi 9) (by kernel_rfl) ?_
  refine go0 2 [] [] ?_
  refine g_mapget 0 b2 (es:=[(Vi 5,.func (.func 156) #[] #[]),(Vi 6,.func (.func 157) #[] #[]),(Vi 7,.func (.func 158) #[] #[]),(Vi 8,.func (.func 159) #[] #[]),(Vi 9,.func (.func 160) #[] #[])]) (td:=.int .i64) (key:=Vi 3) (r:=none) .nilFunc .nilFunc (by kernel_rfl) ?_
  refine go0 4 [] [] ?_
  refine aV 13 0 [.pu,.v (fun gh=>.pointer (some ⟨b,o + 0 * 3,none⟩)),.pu,.lf 0 1,.pu,.pu,.pu,.pu,.v (fun gh=>.pointer (some ⟨b,o + 0 * 3,none⟩)),.pu,.lf 0 1,.pu,.pu] [] (trivial) ?_ ?_
  ·intro R hT hA hmono
   refine And.intro (qY hT hA b o 1 cap 0 (fun gh=>.pointer (some ⟨b,o + 0 * 3,none⟩)) ((by decide))) ?_
   refine And.intro (qY hT hA b o 1 cap 0 (fun gh=>.pointer (some ⟨b,o + 0 * 3,none⟩)) ((by decide))) ?_
   trivial
  rintro W3 S4 -
  refine go0 34 [.cl 160 #[Vi 0,Vi x.n] (.tuple #[Vi r.1,Vi r.2])] [] ?_ (ho:=(And.intro (fun H sH=>hn hq _) (trivial)))
  by_cases hc:r.2=0
  ·refine oQ (t:=r.2 != 0) (bne_eq_false_iff_eq.2 hc) ?_
   refine go0 10 [.b 1 0] [] ?_
   refine hQ.to [.agg #[Vi 1,Vi r.1,Ve]] (fun H sH=>?_) (ix:=[1])
   rw [hap,if_pos hq,if_pos hc]; rfl
  ·skip
   refine dV (t:=r.2 != 0) (bne_iff_ne.2 hc) ?_
   refine go0 9 [.cl 131 #[Vi r.2] (.agg #[Vi 5,Vi r.2,Ve]),.b 1 0] [] ?_ (ho:=(And.intro (fun H sH=>wK _ _) (trivial)))
   refine hQ.to [.agg #[Vi 5,Vi r.2,Ve]] (fun H sH=>?_) (ix:=[1])
   rw [hap,if_pos hq,if_neg hc]; rfl
 ·skip
  refine dV (t := !kv) ((by rw [show kv=false from by simpa using hq]; rfl)) ?_
  refine go0 8 [.cl 131 #[Vi 9] (.agg #[Vi 5,Vi 9,Ve]),.b 0 0] [] ?_ (ho:=(And.intro (fun H sH=>wK 9 _) (trivial)))
  refine hQ.to [.agg #[Vi 5,Vi 9,Ve]] (fun H sH=>?_) (ix:=[0])
  rw [hap,if_neg hq]; rfl
theorem apply_5 (x y:Vl) (sl:Value) (h:Vw) (hr:RS h 3 sl (vrows [x,y])) (hk:∀ v∈[x,y],v.known):C0 Tryz.prog 135 #[.int .i64 5,sl] h (fun v _=>v=(nJ 5 [x,y]).val):=by
 obtain ⟨b,o,cap,rfl,c0⟩:=row0 hr
 have kx:=hk x (by simp)
 have ky:=hk y (by simp)
 have c1:Cells h b (o + 1 * 3) y.cells:=hr.cell (i:=1) rfl
 have hki:=fun H hq=>nV [x,y] (.slice (some ⟨b,o,none⟩) 2 cap) 1 H hq (by simp)
 have hap:nJ 5 [x,y]=if mV [x,y] 1=true then nrV 5 x.n y.n else vK 9:=by unfold nJ; rw [if_neg (by omega),if_neg (by omega),if_neg (by omega),if_neg (by omega),if_neg (by omega),hd0,hd1]
 have hnr:nrV 5 x.n y.n=if (fW 5 x.n y.n).2=0 then ⟨1,(fW 5 x.n y.n).1,⟨#[]⟩⟩ else vK (fW 5 x.n y.n).2:=rfl
 rw [hnr] at hap
 have hl:=fun q=>oV (l:=[x,y]) hk q
 have hn:=fun (q:mV [x,y] 1=true) H=>num_any 5 x.n y.n H (hl q x (by simp)) (hl q y (by simp))
 generalize fW 5 x.n y.n=r at *
 generalize mV [x,y] 1=kv at *
 refine mQ Tryz.func135 (c:=Tryz.f135.body.getD .skip) (N:=147) ?_
 intro hbx hbad Q hQ
 refine nQ (c0.sees (Sees.refl _)) ?_
 refine nQ (c1.sees (Sees.refl _)) ?_
 refine go1 72 [.own,.cl 155 #[.slice (some ⟨b,o,none⟩) 2 cap,Vi 1] (.bool kv)] [] ?_ (ho:=(And.intro (fun H sH=>hki _ (hr.sees sH)) (trivial)))
 intro b1
 by_cases hq:kv=true
 ·skip
  refine oQ (t := !kv) ((by rw [hq]; rfl)) ?_
  refine go0 4 [] [] ?_
  refine g_mapmake ?_; intro b2
  refine xQ 0 b2 (es:=[]) (td:=.int .i64) (key:=Vi 5) (by kernel_rfl) ?_
  refine xQ 0 b2 (es:=[(Vi 5,.func (.func 156) #[] #[])]) (td:=.int .i64) (key:=Vi 6) (by kernel_rfl) ?_
  refine xQ 0 b2 (es:=[(Vi 5,.func (.func 156) #[] #[]),(Vi 6,.func (.func 157) #[] #[])]) (td:=.int .i64) (key:=Vi 7) (by kernel_rfl) ?_
  refine xQ 0 b2 (es:=[(Vi 5,.func (.func 156) #[] #[]),(Vi 6,.func (.func 157) #[] #[]),(Vi 7,.func (.func 158) #[] #[])]) (td:=.int .i64) (key:=Vi 8) (by kernel_rfl) ?_
  refine xQ 0 b2 (es:=[(Vi 5,.func (.func 156) #[] #[]),(Vi 6,.func (.func 157) #[] #[]),(Vi 7,.func (.func 158) #[] #[]),(Vi 8,.func (.func 159) #[] #[])]) (td:=.int .i64) (key:=Vi 9) (by kernel_rfl) ?_
  refine go0 2 [] [] ?_
  refine g_mapget 0 b2 (es:=[(Vi 5,.func (.func 156) #[] #[]),(Vi 6,.func (.func 157) #[] #[]),(Vi 7,.func (.func 158) #[] #[]),(Vi 8,.func (.func 159) #[] #[]),(Vi 9,.func (.func 160) #[] #[])]) (td:=.int .i64) (key:=Vi 5) (r:=some (0,.func (.func 156) #[] #[])) .nilFunc (.func (.func 156) #[] #[]) (by kernel_rfl) ?_
  refine go0 4 [] [] ?_
  refine aV 13 0 [.pu,.v (fun gh=>.pointer (some ⟨b,o + 0 * 3,none⟩)),.pu,.lf 1 1,.pu,.pu,.pu,.pu,.v (fun gh=>.pointer (some ⟨b,o + 1 * 3,none⟩)),.pu,.lf 0 1,.pu,.pu] [] (trivial) ?_ ?_
  ·intro R hT hA hmono
   refine And.intro (qY hT hA b o 2 cap 0 (fun gh=>.pointer (some ⟨b,o + 0 * 3,none⟩)) ((by decide))) ?_
   refine And.intro (qY hT hA b o 2 cap 1 (fun gh=>.pointer (some ⟨b,o + 1 * 3,none⟩)) ((by decide))) ?_
   trivial
  rintro W3 S4 -
  refine go0 31 [.cl 156 #[Vi x.n,Vi y.n] (.tuple #[Vi r.1,Vi r.2])] [] ?_ (ho:=(And.intro (fun H sH=>hn hq _) (trivial)))
  by_cases hc:r.2=0
  ·refine oQ (t:=r.2 != 0) (bne_eq_false_iff_eq.2 hc) ?_
   refine go0 10 [.b 1 0] [] ?_
   refine hQ.to [.agg #[Vi 1,Vi r.1,Ve]] (fun H sH=>?_) (ix:=[1])
   rw [hap,if_pos hq,if_pos hc]; rfl
  ·skip
   refine dV (t:=r.2 != 0) (bne_iff_ne.2 hc) ?_
   refine go0 9 [.cl 131 #[Vi r.2] (.agg #[Vi 5,Vi r.2,Ve]),.b 1 0] [] ?_ (ho:=(And.intro (fun H sH=>wK _ _) (trivial)))
   refine hQ.to [.agg #[Vi 5,Vi r.2,Ve]] (fun H sH=>?_) (ix:=[1])
   rw [hap,if_pos hq,if_neg hc]; rfl
 ·skip
  refine dV (t := !kv) ((by rw [show kv=false from by simpa using hq]; rfl)) ?_
  refine go0 8 [.cl 131 #[Vi 9] (.agg #[Vi 5,Vi 9,Ve]),.b 0 0] [] ?_ (ho:=(And.intro (fun H sH=>wK 9 _) (trivial)))
  refine hQ.to [.agg #[Vi 5,Vi 9,Ve]] (fun H sH=>?_) (ix:=[0])
  rw [hap,if_neg hq]; rfl
theorem apply_6 (x y:Vl) (sl:Value) (h:Vw) (hr:RS h 3 sl (vrows [x,y])) (hk:∀ v∈[x,y],v.known):C0 Tryz.prog 135 #[.int .i64 6,sl] h (fun v _=>v=(nJ 6 [x,y]).val):=by
 obtain ⟨b,o,cap,rfl,c0⟩:=row0 hr
 have kx:=hk x (by simp)
 have ky:=hk y (by simp)
 have c1:Cells h b (o + 1 * 3) y.cells:=hr.cell (i:=1) rfl
 have hki:=fun H hq=>nV [x,y] (.slice (some ⟨b,o,none⟩) 2 cap) 1 H hq (by simp)
 have hap:nJ 6 [x,y]=if mV [x,y] 1=true then nrV 6 x.n y.n else vK 9:=by unfold nJ; rw [if_neg (by omega),if_neg (by omega),if_neg (by omega),if_neg (by omega),if_neg (by omega),hd0,hd1]
 have hnr:nrV 6 x.n y.n=if (fW 6 x.n y.n).2=0 then ⟨1,(fW 6 x.n y.n).1,⟨#[]⟩⟩ else vK (fW 6 x.n y.n).2:=rfl
 rw [hnr] at hap
 have hl:=fun q=>oV (l:=[x,y]) hk q
 have hn:=fun (q:mV [x,y] 1=true) H=>num_any 6 x.n y.n H (hl q x (by simp)) (hl q y (by simp))
 generalize fW 6 x.n y.n=r at *
 generalize mV [x,y] 1=kv at *
 refine mQ Tryz.func135 (c:=Tryz.f135.body.getD .skip) (N:=147) ?_
 intro hbx hbad Q hQ
 refine nQ (c0.sees (Sees.refl _)) ?_
 refine nQ (c1.sees (Sees.refl _)) ?_
 refine go1 72 [.own,.cl 155 #[.slice (some ⟨b,o,none⟩) 2 cap,Vi 1] (.bool kv)] [] ?_ (ho:=(And.intro (fun H sH=>hki _ (hr.sees sH)) (trivial)))
 intro b1
 by_cases hq:kv=true
 ·skip
  refine oQ (t := !kv) ((by rw [hq]; rfl)) ?_
  refine go0 4 [] [] ?_
  refine g_mapmake ?_; intro b2
  refine xQ 0 b2 (es:=[]) (td:=.int .i64) (key:=Vi 5) (by kernel_rfl) ?_
  refine xQ 0 b2 (es:=[(Vi 5,.func (.func 156) #[] #[])]) (td:=.int .i64) (key:=Vi 6) (by kernel_rfl) ?_
  refine xQ 0 b2 (es:=[(Vi 5,.func (.func 156) #[] #[]),(Vi 6,.func (.func 157) #[] #[])]) (td:=.int .i64) (key:=Vi 7) (by kernel_rfl) ?_
  refine xQ 0 b2 (es:=[(Vi 5,.func (.func 156) #[] #[]),(Vi 6,.func (.func 157) #[] #[]),(Vi 7,.func (.func 158) #[] #[])]) (td:=.int .i64) (key:=Vi 8) (by kernel_rfl) ?_
  refine xQ 0 b2 (es:=[(Vi 5,.func (.func 156) #[] #[]),(Vi 6,.func (.func 157) #[] #[]),(Vi 7,.func (.func 158) #[] #[]),(Vi 8,.func (.func 159) #[] #[])]) (td:=.int .i64) (key:=Vi 9) (by kernel_rfl) ?_
  refine go0 2 [] [] ?_
  refine g_mapget 0 b2 (es:=[(Vi 5,.func (.func 156) #[] #[]),(Vi 6,.func (.func 157) #[] #[]),(Vi 7,.func (.func 158) #[] #[]),(Vi 8,.func (.func 159) #[] #[]),(Vi 9,.func (.func 160) #[] #[])]) (td:=.int .i64) (key:=Vi 6) (r:=some (1,.func (.func 157) #[] #[])) .nilFunc (.func (.func 157) #[] #[]) (by kernel_rfl) ?_
  refine go0 4 [] [] ?_
  refine aV 13 0 [.pu,.v (fun gh=>.pointer (some ⟨b,o + 0 * 3,none⟩)),.pu,.lf 1 1,.pu,.pu,.pu,.pu,.v (fun gh=>.pointer (some ⟨b,o + 1 * 3,none⟩)),.pu,.lf 0 1,.pu,.pu] [] (trivial) ?_ ?_
  ·intro R hT hA hmono
   refine And.intro (qY hT hA b o 2 cap 0 (fun gh=>.pointer (some ⟨b,o + 0 * 3,none⟩)) ((by decide))) ?_
   refine And.intro (qY hT hA b o 2 cap 1 (fun gh=>.pointer (some ⟨b,o + 1 * 3,none⟩)) ((by decide))) ?_
   trivial
  rintro W3 S4 -
  refine go0 31 [.cl 157 #[Vi x.n,Vi y.n] (.tuple #[Vi r.1,Vi r.2])] [] ?_ (ho:=(And.intro (fun H sH=>hn hq _) (trivial)))
  by_cases hc:r.2=0
  ·refine oQ (t:=r.2 != 0) (bne_eq_false_iff_eq.2 hc) ?_
   refine go0 10 [.b 1 0] [] ?_
   refine hQ.to [.agg #[Vi 1,Vi r.1,Ve]] (fun H sH=>?_) (ix:=[1])
   rw [hap,if_pos hq,if_pos hc]; rfl
  ·skip
   refine dV (t:=r.2 != 0) (bne_iff_ne.2 hc) ?_
   refine go0 9 [.cl 131 #[Vi r.2] (.agg #[Vi 5,Vi r.2,Ve]),.b 1 0] [] ?_ (ho:=(And.intro (fun H sH=>wK _ _) (trivial)))
   refine hQ.to [.agg #[Vi 5,Vi r.2,Ve]] (fun H sH=>?_) (ix:=[1])
   rw [hap,if_pos hq,if_neg hc]; rfl
 ·skip
  refine dV (t := !kv) ((by rw [show kv=false from by simpa using hq]; rfl)) ?_
  refine go0 8 [.cl 131 #[Vi 9] (.agg #[Vi 5,Vi 9,Ve]),.b 0 0] [] ?_ (ho:=(And.intro (fun H sH=>wK 9 _) (trivial)))
  refine hQ.to [.agg #[Vi 5,Vi 9,Ve]] (fun H sH=>?_) (ix:=[0])
  rw [hap,if_neg hq]; rfl
theorem apply_7 (x y:Vl) (sl:Value) (h:Vw) (hr:RS h 3 sl (vrows [x,y])) (hk:∀ v∈[x,y],v.known):C0 Tryz.prog 135 #[.int .i64 7,sl] h (fun v _=>v=(nJ 7 [x,y]).val):=by
 obtain ⟨b,o,cap,rfl,c0⟩:=row0 hr
 have kx:=hk x (by simp)
 have ky:=hk y (by simp)
 have c1:Cells h b (o + 1 * 3) y.cells:=hr.cell (i:=1) rfl
 have hki:=fun H hq=>nV [x,y] (.slice (some ⟨b,o,none⟩) 2 cap) 1 H hq (by simp)
 have hap:nJ 7 [x,y]=if mV [x,y] 1=true then nrV 7 x.n y.n else vK 9:=by unfold nJ; rw [if_neg (by omega),if_neg (by omega),if_neg (by omega),if_neg (by omega),if_neg (by omega),hd0,hd1]
 have hnr:nrV 7 x.n y.n=if (fW 7 x.n y.n).2=0 then ⟨1,(fW 7 x.n y.n).1,⟨#[]⟩⟩ else vK (fW 7 x.n y.n).2:=rfl
 rw [hnr] at hap
 have hl:=fun q=>oV (l:=[x,y]) hk q
 have hn:=fun (q:mV [x,y] 1=true) H=>num_any 7 x.n y.n H (hl q x (by simp)) (hl q y (by simp))
 generalize fW 7 x.n y.n=r at *
 generalize mV [x,y] 1=kv at *
 refine mQ Tryz.func135 (c:=Tryz.f135.body.getD .skip) (N:=147) ?_
 intro hbx hbad Q hQ
 refine nQ (c0.sees (Sees.refl _)) ?_
 refine nQ (c1.sees (Sees.refl _)) ?_
 refine go1 72 [.own,.cl 155 #[.slice (some ⟨b,o,none⟩) 2 cap,Vi 1] (.bool kv)] [] ?_ (ho:=(And.intro (fun H sH=>hki _ (hr.sees sH)) (trivial)))
 intro b1
 by_cases hq:kv=true
 ·skip
  refine oQ (t := !kv) ((by rw [hq]; rfl)) ?_
  refine go0 4 [] [] ?_
  refine g_mapmake ?_; intro b2
  refine xQ 0 b2 (es:=[]) (td:=.int .i64) (key:=Vi 5) (by kernel_rfl) ?_
  refine xQ 0 b2 (es:=[(Vi 5,.func (.func 156) #[] #[])]) (td:=.int .i64) (key:=Vi 6) (by kernel_rfl) ?_
  refine xQ 0 b2 (es:=[(Vi 5,.func (.func 156) #[] #[]),(Vi 6,.func (.func 157) #[] #[])]) (td:=.int .i64) (key:=Vi 7) (by kernel_rfl) ?_
  refine xQ 0 b2 (es:=[(Vi 5,.func (.func 156) #[] #[]),(Vi 6,.func (.func 157) #[] #[]),(Vi 7,.func (.func 158) #[] #[])]) (td:=.int .i64) (key:=Vi 8) (by kernel_rfl) ?_
  refine xQ 0 b2 (es:=[(Vi 5,.func (.func 156) #[] #[]),(Vi 6,.func (.func 157) #[] #[]),(Vi 7,.func (.func 158) #[] #[]),(Vi 8,.func (.func 159) #[] #[])]) (td:=.int .i64) (key:=Vi 9) (by kernel_rfl) ?_
  refine go0 2 [] [] ?_
  refine g_mapget 0 b2 (es:=[(Vi 5,.func (.func 156) #[] #[]),(Vi 6,.func (.func 157) #[] #[]),(Vi 7,.func (.func 158) #[] #[]),(Vi 8,.func (.func 159) #[] #[]),(Vi 9,.func (.func 160) #[] #[])]) (td:=.int .i64) (key:=Vi 7) (r:=some (2,.func (.func 158) #[] #[])) .nilFunc (.func (.func 158) #[] #[]) (by kernel_rfl) ?_
  refine go0 4 [] [] ?_
  refine aV 13 0 [.pu,.v (fun gh=>.pointer (some ⟨b,o + 0 * 3,none⟩)),.pu,.lf 1 1,.pu,.pu,.pu,.pu,.v (fun gh=>.pointer (some ⟨b,o + 1 * 3,none⟩)),.pu,.lf 0 1,.pu,.pu] [] (trivial) ?_ ?_
  ·intro R hT hA hmono
   refine And.intro (qY hT hA b o 2 cap 0 (fun gh=>.pointer (some ⟨b,o + 0 * 3,none⟩)) ((by decide))) ?_
   refine And.intro (qY hT hA b o 2 cap 1 (fun gh=>.pointer (some ⟨b,o + 1 * 3,none⟩)) ((by decide))) ?_
   trivial
  rintro W3 S4 -
  refine go0 31 [.cl 158 #[Vi x.n,Vi y.n] (.tuple #[Vi r.1,Vi r.2])] [] ?_ (ho:=(And.intro (fun H sH=>hn hq _) (trivial)))
  by_cases hc:r.2=0
  ·refine oQ (t:=r.2 != 0) (bne_eq_false_iff_eq.2 hc) ?_
   refine go0 10 [.b 1 0] [] ?_
   refine hQ.to [.agg #[Vi 1,Vi r.1,Ve]] (fun H sH=>?_) (ix:=[1])
   rw [hap,if_pos hq,if_pos hc]; rfl
  ·skip
   refine dV (t:=r.2 != 0) (bne_iff_ne.2 hc) ?_
   refine go0 9 [.cl 131 #[Vi r.2] (.agg #[Vi 5,Vi r.2,Ve]),.b 1 0] [] ?_ (ho:=(And.intro (fun H sH=>wK _ _) (trivial)))
   refine hQ.to [.agg #[Vi 5,Vi r.2,Ve]] (fun H sH=>?_) (ix:=[1])
   rw [hap,if_pos hq,if_neg hc]; rfl
 ·skip
  refine dV (t := !kv) ((by rw [show kv=false from by simpa using hq]; rfl)) ?_
  refine go0 8 [.cl 131 #[Vi 9] (.agg #[Vi 5,Vi 9,Ve]),.b 0 0] [] ?_ (ho:=(And.intro (fun H sH=>wK 9 _) (trivial)))
  refine hQ.to [.agg #[Vi 5,Vi 9,Ve]] (fun H sH=>?_) (ix:=[0])
  rw [hap,if_neg hq]; rfl
theorem apply_8 (x y:Vl) (sl:Value) (h:Vw) (hr:RS h 3 sl (vrows [x,y])) (hk:∀ v∈[x,y],v.known):C0 Tryz.prog 135 #[.int .i64 8,sl] h (fun v _=>v=(nJ 8 [x,y]).val):=by
 obtain ⟨b,o,cap,rfl,c0⟩:=row0 hr
 have kx:=hk x (by simp)
 have ky:=hk y (by simp)
 have c1:Cells h b (o + 1 * 3) y.cells:=hr.cell (i:=1) rfl
 have hki:=fun H hq=>nV [x,y] (.slice (some ⟨b,o,none⟩) 2 cap) 1 H hq (by simp)
 have hap:nJ 8 [x,y]=if mV [x,y] 1=true then nrV 8 x.n y.n else vK 9:=by unfold nJ; rw [if_neg (by omega),if_neg (by omega),if_neg (by omega),if_neg (by omega),if_neg (by omega),hd0,hd1]
 have hnr:nrV 8 x.n y.n=if (fW 8 x.n y.n).2=0 then ⟨1,(fW 8 x.n y.n).1,⟨#[]⟩⟩ else vK (fW 8 x.n y.n).2:=rfl
 rw [hnr] at hap
 have hl:=fun q=>oV (l:=[x,y]) hk q
 have hn:=fun (q:mV [x,y] 1=true) H=>num_any 8 x.n y.n H (hl q x (by simp)) (hl q y (by simp))
 generalize fW 8 x.n y.n=r at *
 generalize mV [x,y] 1=kv at *
 refine mQ Tryz.func135 (c:=Tryz.f135.body.getD .skip) (N:=147) ?_
 intro hbx hbad Q hQ
 refine nQ (c0.sees (Sees.refl _)) ?_
 refine nQ (c1.sees (Sees.refl _)) ?_
 refine go1 72 [.own,.cl 155 #[.slice (some ⟨b,o,none⟩) 2 cap,Vi 1] (.bool kv)] [] ?_ (ho:=(And.intro (fun H sH=>hki _ (hr.sees sH)) (trivial)))
 intro b1
 by_cases hq:kv=true
 ·skip
  refine oQ (t := !kv) ((by rw [hq]; rfl)) ?_
  refine go0 4 [] [] ?_
  refine g_mapmake ?_; intro b2
  refine xQ 0 b2 (es:=[]) (td:=.int .i64) (key:=Vi 5) (by kernel_rfl) ?_
  refine xQ 0 b2 (es:=[(Vi 5,.func (.func 156) #[] #[])]) (td:=.int .i64) (key:=Vi 6) (by kernel_rfl) ?_
  refine xQ 0 b2 (es:=[(Vi 5,.func (.func 156) #[] #[]),(Vi 6,.func (.func 157) #[] #[])]) (td:=.int .i64) (key:=Vi 7) (by kernel_rfl) ?_
  refine xQ 0 b2 (es:=[(Vi 5,.func (.func 156) #[] #[]),(Vi 6,.func (.func 157) #[] #[]),(Vi 7,.func (.func 158) #[] #[])]) (td:=.int .i64) (key:=Vi 8) (by kernel_rfl) ?_
  refine xQ 0 b2 (es:=[(Vi 5,.func (.func 156) #[] #[]),(Vi 6,.func (.func 157) #[] #[]),(Vi 7,.func (.func 158) #[] #[]),(Vi 8,.func (.func 159) #[] #[])]) (td:=.int .i64) (key:=Vi 9) (by kernel_rfl) ?_
  refine go0 2 [] [] ?_
  refine g_mapget 0 b2 (es:=[(Vi 5,.func (.func 156) #[] #[]),(Vi 6,.func (.func 157) #[] #[]),(Vi 7,.func (.func 158) #[] #[]),(Vi 8,.func (.func 159) #[] #[]),(Vi 9,.func (.func 160) #[] #[])]) (td:=.int .i64) (key:=Vi 8) (r:=some (3,.func (.func 159) #[] #[])) .nilFunc (.func (.func 159) #[] #[]) (by kernel_rfl) ?_
  refine go0 4 [] [] ?_
  refine aV 13 0 [.pu,.v (fun gh=>.pointer (some ⟨b,o + 0 * 3,none⟩)),.pu,.lf 1 1,.pu,.pu,.pu,.pu,.v (fun gh=>.pointer (some ⟨b,o + 1 * 3,none⟩)),.pu,.lf 0 1,.pu,.pu] [] (trivial) ?_ ?_
  ·intro R hT hA hmono
   refine And.intro (qY hT hA b o 2 cap 0 (fun gh=>.pointer (some ⟨b,o + 0 * 3,none⟩)) ((by decide))) ?_
   refine And.intro (qY hT hA b o 2 cap 1 (fun gh=>.pointer (some ⟨b,o + 1 * 3,none⟩)) ((by decide))) ?_
   trivial
  rintro W3 S4 -
  refine go0 31 [.cl 159 #[Vi x.n,Vi y.n] (.tuple #[Vi r.1,Vi r.2])] [] ?_ (ho:=(And.intro (fun H sH=>hn hq _) (trivial)))
  by_cases hc:r.2=0
  ·refine oQ (t:=r.2 != 0) (bne_eq_false_iff_eq.2 hc) ?_
   refine go0 10 [.b 1 0] [] ?_
   refine hQ.to [.agg #[Vi 1,Vi r.1,Ve]] (fun H sH=>?_) (ix:=[1])
   rw [hap,if_pos hq,if_pos hc]; rfl
  ·skip
   refine dV (t:=r.2 != 0) (bne_iff_ne.2 hc) ?_
   refine go0 9 [.cl 131 #[Vi r.2] (.agg #[Vi 5,Vi r.2,Ve]),.b 1 0] [] ?_ (ho:=(And.intro (fun H sH=>wK _ _) (trivial)))
   refine hQ.to [.agg #[Vi 5,Vi r.2,Ve]] (fun H sH=>?_) (ix:=[1])
   rw [hap,if_pos hq,if_neg hc]; rfl
 ·skip
  refine dV (t := !kv) ((by rw [show kv=false from by simpa using hq]; rfl)) ?_
  refine go0 8 [.cl 131 #[Vi 9] (.agg #[Vi 5,Vi 9,Ve]),.b 0 0] [] ?_ (ho:=(And.intro (fun H sH=>wK 9 _) (trivial)))
  refine hQ.to [.agg #[Vi 5,Vi 9,Ve]] (fun H sH=>?_) (ix:=[0])
  rw [hap,if_neg hq]; rfl
theorem apply_9 (x y:Vl) (sl:Value) (h:Vw) (hr:RS h 3 sl (vrows [x,y])) (hk:∀ v∈[x,y],v.known):C0 Tryz.prog 135 #[.int .i64 9,sl] h (fun v _=>v=(nJ 9 [x,y]).val):=by
 obtain ⟨b,o,cap,rfl,c0⟩:=row0 hr
 have kx:=hk x (by simp)
 have ky:=hk y (by simp)
 have c1:Cells h b (o + 1 * 3) y.cells:=hr.cell (i:=1) rfl
 have hki:=fun H hq=>nV [x,y] (.slice (some ⟨b,o,none⟩) 2 cap) 1 H hq (by simp)
 have hap:nJ 9 [x,y]=if mV [x,y] 1=true then nrV 9 x.n y.n else vK 9:=by unfold nJ; rw [if_neg (by omega),if_neg (by omega),if_neg (by omega),if_neg (by omega),if_neg (by omega),hd0,hd1]
 have hnr:nrV 9 x.n y.n=if (fW 9 x.n y.n).2=0 then ⟨1,(fW 9 x.n y.n).1,⟨#[]⟩⟩ else vK (fW 9 x.n y.n).2:=rfl
 rw [hnr] at hap
 have hl:=fun q=>oV (l:=[x,y]) hk q
 have hn:=fun (q:mV [x,y] 1=true) H=>num_any 9 x.n y.n H (hl q x (by simp)) (hl q y (by simp))
 generalize fW 9 x.n y.n=r at *
 generalize mV [x,y] 1=kv at *
 refine mQ Tryz.func135 (c:=Tryz.f135.body.getD .skip) (N:=147) ?_
 intro hbx hbad Q hQ
 refine nQ (c0.sees (Sees.refl _)) ?_
 refine nQ (c1.sees (Sees.refl _)) ?_
 refine go1 72 [.own,.cl 155 #[.slice (some ⟨b,o,none⟩) 2 cap,Vi 1] (.bool kv)] [] ?_ (ho:=(And.intro (fun H sH=>hki _ (hr.sees sH)) (trivial)))
 intro b1
 by_cases hq:kv=true
 ·skip
  refine oQ (t := !kv) ((by rw [hq]; rfl)) ?_
  refine go0 4 [] [] ?_
  refine g_mapmake ?_; intro b2
  refine xQ 0 b2 (es:=[]) (td:=.int .i64) (key:=Vi 5) (by kernel_rfl) ?_
  refine xQ 0 b2 (es:=[(Vi 5,.func (.func 156) #[] #[])]) (td:=.int .i64) (key:=Vi 6) (by kernel_rfl) ?_
  refine xQ 0 b2 (es:=[(Vi 5,.func (.func 156) #[] #[]),(Vi 6,.func (.func 157) #[] #[])]) (td:=.int .i64) (key:=Vi 7) (by kernel_rfl) ?_
  refine xQ 0 b2 (es:=[(Vi 5,.func (.func 156) #[] #[]),(Vi 6,.func (.func 157) #[] #[]),(Vi 7,.func (.func 158) #[] #[])]) (td:=.int .i64) (key:=Vi 8) (by kernel_rfl) ?_
  refine xQ 0 b2 (es:=[(Vi 5,.func (.func 156) #[] #[]),(Vi 6,.func (.func 157) #[] #[]),(Vi 7,.func (.func 158) #[] #[]),(Vi 8,.func (.func 159) #[] #[])]) (td:=.int .i64) (key:=Vi 9) (by kernel_rfl) ?_
  refine go0 2 [] [] ?_
  refine g_mapget 0 b2 (es:=[(Vi 5,.func (.func 156) #[] #[]),(Vi 6,.func (.func 157) #[] #[]),(Vi 7,.func (.func 158) #[] #[]),(Vi 8,.func (.func 159) #[] #[]),(Vi 9,.func (.func 160) #[] #[])]) (td:=.int .i64) (key:=Vi 9) (r:=some (4,.func (.func 160) #[] #[])) .nilFunc (.func (.func 160) #[] #[]) (by kernel_rfl) ?_
  refine go0 4 [] [] ?_
  refine aV 13 0 [.pu,.v (fun gh=>.pointer (some ⟨b,o + 0 * 3,none⟩)),.pu,.lf 1 1,.pu,.pu,.pu,.pu,.v (fun gh=>.pointer (some ⟨b,o + 1 * 3,none⟩)),.pu,.lf 0 1,.pu,.pu] [] (trivial) ?_ ?_
  ·intro R hT hA hmono
   refine And.intro (qY hT hA b o 2 cap 0 (fun gh=>.pointer (some ⟨b,o + 0 * 3,none⟩)) ((by decide))) ?_
   refine And.intro (qY hT hA b o 2 cap 1 (fun gh=>.pointer (some ⟨b,o + 1 * 3,none⟩)) ((by decide))) ?_
   trivial
  rintro W3 S4 -
  refine go0 31 [.cl 160 #[Vi x.n,Vi y.n] (.tuple #[Vi r.1,Vi r.2])] [] ?_ (ho:=(And.intro (fun H sH=>hn hq _) (trivial)))
  by_cases hc:r.2=0
  ·refine oQ (t:=r.2 != 0) (bne_eq_false_iff_eq.2 hc) ?_
   refine go0 10 [.b 1 0] [] ?_
   refine hQ.to [.agg #[Vi 1,Vi r.1,Ve]] (fun H sH=>?_) (ix:=[1])
   rw [hap,if_pos hq,if_pos hc]; rfl
  ·skip
   refine dV (t:=r.2 != 0) (bne_iff_ne.2 hc) ?_
   refine go0 9 [.cl 131 #[Vi r.2] (.agg #[Vi 5,Vi r.2,Ve]),.b 1 0] [] ?_ (ho:=(And.intro (fun H sH=>wK _ _) (trivial)))
   refine hQ.to [.agg #[Vi 5,Vi r.2,Ve]] (fun H sH=>?_) (ix:=[1])
   rw [hap,if_pos hq,if_neg hc]; rfl
 ·skip
  refine dV (t := !kv) ((by rw [show kv=false from by simpa using hq]; rfl)) ?_
  refine go0 8 [.cl 131 #[Vi 9] (.agg #[Vi 5,Vi 9,Ve]),.b 0 0] [] ?_ (ho:=(And.intro (fun H sH=>wK 9 _) (trivial)))
  refine hQ.to [.agg #[Vi 5,Vi 9,Ve]] (fun H sH=>?_) (ix:=[0])
  rw [hap,if_neg hq]; rfl
theorem apply_any (op:Int) (l:List Vl) (sl:Value) (h:Vw) (hr:RS h 3 sl (vrows l)) (hk:∀ v∈l,v.known) (h1:3≤op) (h2:op≤18) (h15:op≠15) (h16:op≠16) (h17:op≠17) (hl:l.length=arity op) :
  C0 Tryz.prog 135 #[.int .i64 op,sl] h (fun v _=>v=(nJ op l).val):=by
 have e1:∀ {l:List Vl},l.length=1→∃ x,l=[x]:=fun {l} h=>by
  cases l with
  | nil=>cases h
  | cons x l=>cases l with
   | nil=>exact ⟨x,rfl⟩
   | cons y l=>simp at h
 have e2:∀ {l:List Vl},l.length=2→∃ x y,l=[x,y]:=fun {l} h=>by
  cases l with
  | nil=>cases h
  | cons x l =>
   cases l with
   | nil=>simp at h
   | cons y l=>cases l with
    | nil=>exact ⟨x,y,rfl⟩
    | cons z l=>simp at h
 obtain rfl | rfl | rfl | rfl | rfl | rfl | rfl | rfl | rfl | rfl | rfl | rfl | rfl:op=3∨op=4∨op=5∨op=6∨op=7∨op=8∨op=9∨op=10∨op=11∨op=12∨op=13∨op=14∨op=18:=by omega
 ·obtain ⟨x,rfl⟩:=e1 hl; exact apply_3 x sl h hr hk
 ·obtain ⟨x,rfl⟩:=e1 hl; exact apply_4 x sl h hr hk
 ·obtain ⟨x,y,rfl⟩:=e2 hl; exact apply_5 x y sl h hr hk
 ·obtain ⟨x,y,rfl⟩:=e2 hl; exact apply_6 x y sl h hr hk
 ·obtain ⟨x,y,rfl⟩:=e2 hl; exact apply_7 x y sl h hr hk
 ·obtain ⟨x,y,rfl⟩:=e2 hl; exact apply_8 x y sl h hr hk
 ·obtain ⟨x,y,rfl⟩:=e2 hl; exact apply_9 x y sl h hr hk
 ·obtain ⟨x,y,rfl⟩:=e2 hl; exact apply_10 x y sl h hr hk
 ·obtain ⟨x,y,rfl⟩:=e2 hl; exact apply_11 x y sl h hr hk
 ·obtain ⟨x,y,rfl⟩:=e2 hl; exact apply_12 x y sl h hr hk
 ·obtain ⟨x,y,rfl⟩:=e2 hl; exact apply_13 x y sl h hr hk
 ·obtain ⟨x,y,rfl⟩:=e2 hl; exact apply_14 x y sl h hr hk
 ·obtain ⟨x,rfl⟩:=e1 hl; exact apply_18 x sl h hr hk
end Go.Proofs.YtjpgjnldeafpkaaGreat
namespace Go.Proofs.YtjpgjnldeafpkaaGreat
open Go.RowKit
abbrev lK (env:Env):List (Value × Value):=kY (env.map fun p=>(p.1,p.2.val))
theorem sget_env (s:ByteArray):∀ env:Env,sget s (env.map fun p=>(p.1,p.2.val))=(env.get s).map Vl.val
 | []=>rfl
 | (k,v) :: l=>by
  simp only [List.map_cons]
  unfold sget Env.get
  cases s == k
  ·simp only [Bool.false_eq_true,if_false]; exact sget_env s l
  ·rfl
def EnvOk (env:Env):Prop:=∀ s v,env.get s=some v→OkV v
theorem arity_pos {op:Int} (h1:3≤op) (h2:op≤18):1≤arity op∧arity op≤3:=by
 unfold arity
 rw [if_neg (by omega)]
 repeat' split
 all_goals omega
theorem applyV_ok {op:Int} {l:List Vl} (hk:∀ v∈l,v.known) (hl:1≤l.length) (hl2:op=10∨(5≤op∧op≤9)→2≤l.length) (h3:3≤op) (h18:op≤18) (hx:op≠15∧op≠16∧op≠17):OkV (nJ op l):=by
 have h0:hdV l 0∈l:=by
  cases l with
  | nil=>simp at hl
  | cons x l=>exact List.mem_cons_self
 have h1:2≤l.length→hdV l 1∈l:=fun h=>by
  cases l with
  | nil=>simp at h
  | cons x l =>
   cases l with
   | nil=>simp at h
   | cons y l=>simp [hdV]
 unfold nJ
 split
 ·split
  ·exact ok_truth _
  ·exact jW (by omega) (by omega)
 ·split
  ·split
   ·exact ok_truth _
   ·exact jW (by omega) (by omega)
  ·split
   ·split
    ·rename_i hq
     have:=known_texts hk hq _ h0
     exact .inl (.inl ⟨rfl,by unfold Lim; simp only; omega,rfl⟩)
    ·exact jW (by omega) (by omega)
   ·split
    ·rename_i h10
     split
     ·rename_i hq
      have k0:=hk _ h0
      have k1:=hk _ (h1 (hl2 (.inl h10)))
      have e0:(hdV l 0).k=3:=by unfold mV at hq; rw [List.all_eq_true] at hq; simpa using hq _ h0
      have e1:(hdV l 1).k=3:=by unfold mV at hq; rw [List.all_eq_true] at hq; simpa using hq _ (h1 (hl2 (.inl h10)))
      generalize hdV l 0=x at *
      generalize hdV l 1=y at *
      unfold joinV
      split
      ·exact jW (by omega) (by omega)
      ·rename_i hc
       rcases k0 with g | g | g
       ·omega
       ·omega
       ·rcases k1 with q | q | q
        ·omega
        ·omega
        ·refine .inl (.inr (.inr ⟨rfl,rfl,by simp [ByteArray.size_append]; omega,fun i hi=>?_⟩))
         have hs:(x.s++y.s).size=x.s.size + y.s.size:=ByteArray.size_append ..
         have hi':i < x.s.size + y.s.size:=by rw [← hs]; exact hi
         show 32≤(x.s++y.s)[i].toNat∧_
         by_cases hlt:i < x.s.size
         ·rw [ByteArray.getElem_append_left hlt]; exact g.2.2.2 i hlt
         ·rw [ByteArray.getElem_append_right (by omega)]; exact q.2.2.2 _ (by omega)
     ·exact jW (by omega) (by omega)
    ·split
     ·split
      ·rename_i hq
       exact nrV_ok (by unfold Lim; omega) (oV hk hq _ h0)
      ·exact jW (by omega) (by omega)
     ·split
      ·rename_i hq
       exact nrV_ok (oV hk hq _ h0) (oV hk hq _ (h1 (hl2 (.inr (by omega)))))
      ·exact jW (by omega) (by omega)
theorem lack_some {u:Vl}:∀ {l:List Vl} {p:Option Vl},qV p l=some u→(∀ w,p=some w→w.k=4)→(u.k=5∨u.k=4)∧(p=some u∨u∈l)
 | [],p,h,hp=>by
  unfold qV at h
  exact ⟨.inr (hp u h),.inl h⟩
 | v :: l,p,h,hp=>by
  unfold qV at h
  split at h
  ·simp only [Option.some.injEq] at h; subst h; rename_i h5; exact ⟨.inl h5,.inr (by simp)⟩
  ·by_cases h4:v.k=4
   ·rw [if_pos h4] at h
    obtain ⟨h1,h2⟩:=lack_some h (fun w hw=>by simp only [Option.some.injEq] at hw; subst hw; exact h4)
    refine ⟨h1,.inr ?_⟩
    rcases h2 with h2 | h2
    ·simp only [Option.some.injEq] at h2; subst h2; simp
    ·simp [h2]
   ·rw [if_neg h4] at h
    obtain ⟨h1,h2⟩:=lack_some h hp
    exact ⟨h1,h2.imp id (fun k=>by simp [k])⟩
theorem lack_none:∀ {l:List Vl} {p:Option Vl},qV p l=none→p=none∧∀ v∈l,v.k≠5∧v.k≠4
 | [],p,h=>⟨h,fun v hv=>by cases hv⟩
 | v :: l,p,h=>by
  unfold qV at h
  split at h
  ·cases h
  ·rename_i h5
   obtain ⟨h1,h2⟩:=lack_none h
   by_cases h4:v.k=4
   ·rw [if_pos h4] at h1; cases h1
   ·rw [if_neg h4] at h1
    refine ⟨h1,fun u hu=>?_⟩
    rcases List.mem_cons.1 hu with rfl | hu
    ·exact ⟨h5,h4⟩
    ·exact h2 u hu
theorem firstV_ok {v:Vl} (h:OkV v):OkV (dQ v).1:=by
 unfold dQ
 split
 ·exact jW (by omega) (by omega)
 ·exact h
theorem boolV_ok {v:Vl} (h:OkV v):OkV (boolV v):=by
 unfold boolV
 split
 ·exact jW (by omega) (by omega)
 ·exact h
theorem hdV_mem {l:List Vl} {i:Nat} (h:i < l.length):hdV l i∈l:=by
 unfold hdV
 rw [List.getD_eq_getElem?_getD,List.getElem?_eq_getElem h]
 exact List.getElem_mem h
theorem evalE_ok {env:Env} (he:EnvOk env):∀ (m:Nat) (x:Ex),(szE x).1≤m→WfE x→OkV (mK env x)
 | 0,x,h,_=>by have:=nY x; omega
 | m + 1,x,h,hw=>by
  have hsz:=mY x
  rw [hsz] at h
  simp only at h
  have hl:∀ v∈nK env x.args,OkV v:=by
   intro v hv
   rw [oK] at hv
   obtain ⟨y,hy,rfl⟩:=List.mem_map.1 hv
   exact evalE_ok he m y (by have:=(oY hy).1; omega) (hw.list.get hy)
  have hlen:(nK env x.args).length=x.args.length:=by rw [oK,List.length_map]
  rw [evalE_eq]
  rcases hw.top with ⟨h1,h2,h3,h4,h5⟩ | ⟨h1,h2,h3,h4,h5,h6⟩ | ⟨h1,h2,h3,h4,h5,h6,h7⟩
  ·rw [if_pos h1]; exact .inl h2
  ·rw [if_neg (by omega),if_pos h1]
   cases hg:env.get x.nm with
   | none=>exact jW (by omega) (by omega)
   | some v=>exact he _ _ hg
  ·rw [if_neg (by omega),if_neg (by omega)]
   have hap:=arity_pos h1 h2
   split
   ·rename_i hq
    have ha:arity x.op=2:=by unfold arity; rw [if_neg (by omega),if_neg (by omega),if_neg (by omega)]
    split
    ·exact firstV_ok (hl _ (hdV_mem (by omega)))
    ·exact boolV_ok (hl _ (hdV_mem (by omega)))
   ·split
    ·rename_i hq
     have ha:arity x.op=3:=by rw [hq]; rfl
     split
     ·exact firstV_ok (hl _ (hdV_mem (by omega)))
     ·split
      ·exact hl _ (hdV_mem (by omega))
      ·exact hl _ (hdV_mem (by omega))
    ·rename_i n1 n2
     cases hk:qV none (nK env x.args) with
     | some u =>
      obtain ⟨-,g⟩:=lack_some hk (fun w hw=>by cases hw)
      rcases g with g | g
      ·cases g
      ·exact hl u g
     | none =>
      obtain ⟨-,g⟩:=lack_none hk
      refine applyV_ok (fun v hv=>ok_known (hl v hv) (g v hv).2 (g v hv).1) (by omega) (fun hq=>?_) h1 h2 ⟨by omega,by omega,by omega⟩
      have ha:arity x.op=2:=by
       unfold arity
       rw [if_neg (by omega),if_neg (by omega),if_neg (by omega)]
      omega
def OfAll (env:Env) (b:Nat) (l:List Ex):Prop:=∀ y∈l,∀ v h,IsArgs h y v→MapAt h b (lK env)→C0 Tryz.prog 114 #[.map (some b),.agg #[.int .i64 y.op,.int .i64 y.k,.int .i64 y.n,.string y.s,.string y.nm,v]] h (fun r _=>r=(mK env y).val)
theorem first_any (env:Env) (b:Nat) (x y:Ex) (sl:Value) (h:Vw) (hx:IsArgs h x sl) (hm:MapAt h b (lK env)) (hy:x.args[0]?=some y) (hof:OfAll env b x.args) (hok:OkV (mK env y)) :
  C0 Tryz.prog 132 #[.map (some b),.agg #[.int .i64 x.op,.int .i64 x.k,.int .i64 x.n,.string x.s,.string x.nm,sl]] h (fun r _=>r=.tuple #[(dQ (mK env y)).1.val,.bool (dQ (mK env y)).2]):=by
 obtain ⟨vs,hr,hvs⟩:=hx.form
 obtain ⟨A,c,rfl,-,-,-⟩:=hr.form
 have hvl:=hvs.len
 have hrl:=sK hvl
 have hlt:=(List.getElem?_eq_some_iff.1 hy).1
 rw [hrl] at hr ⊢
 have ho:=hof y (List.mem_of_getElem? hy)
 obtain ⟨u,hu⟩:∃ u,vs[0]?=some u:=⟨_,List.getElem?_eq_getElem (by omega)⟩
 have hyu:=AllArgs.get hvs hy hu
 obtain ⟨Au,nu,cu,rfl⟩:=hyu.slice
 have hrow:(rK x.args vs)[0]?=some (exRow y (.slice Au nu cu)):=by show (List.zipWith exRow _ _)[0]?=_; rw [List.getElem?_zipWith,hy,hu]
 have hk:=ok_kinds hok
 generalize x.args.length=len at *
 generalize mK env y=e at *
 obtain ⟨ek,en,es⟩:=e
 obtain rfl | rfl | rfl | rfl | rfl:ek=1∨ek=2∨ek=3∨ek=4∨ek=5:=by simp only at hk; omega
 ·refine mQ Tryz.func132 (c:=Tryz.f132.body.getD .skip) (N:=31) ?_
  intro hbx hbad Q hQ
  refine go2 12 [.own,.own,.b 1 5] [] ?_
  intro b1 b2
  obtain ⟨b3,o4,rfl,-,c5⟩:=RS.row hr (hrow)
  refine nQ (c5.sees (Sees.refl _)) ?_
  refine go1 35 [.ix b3 o4 len c 0,.f 0 0,.cl 114 #[.map (some b),.agg #[Vi y.op,Vi y.k,Vi y.n,.string y.s,.string y.nm,.slice Au nu cu]] (.agg #[Vi 1,Vi en,.string es]),.own,.b 0 0,.b 0 0,.b 0 0,.b 0 0,.cl 131 #[Vi 9] (.agg #[Vi 5,Vi 9,Ve]),.b 1 0] [] ?_ (ho:=(And.intro (by first | omega | (simp; omega)) (And.intro (fun H sH=>ho _ _ (hyu.sees sH) (hm.sees sH)) (And.intro (fun H sH=>wK 9 _) (trivial)))))
  intro b6
  refine hQ.to [.agg #[Vi 5,Vi 9,Ve],.bool false] (fun H sH=>?_) (ix:=[1])
  exact rfl
 ·refine mQ Tryz.func132 (c:=Tryz.f132.body.getD .skip) (N:=31) ?_
  intro hbx hbad Q hQ
  refine go2 12 [.own,.own,.b 1 5] [] ?_
  intro b1 b2
  obtain ⟨b3,o4,rfl,-,c5⟩:=RS.row hr (hrow)
  refine nQ (c5.sees (Sees.refl _)) ?_
  refine go1 29 [.ix b3 o4 len c 0,.f 0 0,.cl 114 #[.map (some b),.agg #[Vi y.op,Vi y.k,Vi y.n,.string y.s,.string y.nm,.slice Au nu cu]] (.agg #[Vi 2,Vi en,.string es]),.own,.b 0 0,.b 0 0] [] ?_ (ho:=(And.intro (by first | omega | (simp; omega)) (And.intro (fun H sH=>ho _ _ (hyu.sees sH) (hm.sees sH)) (trivial))))
  intro b6
  refine aV 6 0 [.ld 0 0,.pu,.ld 0 0,.pu,.st 1 0,.pu] [] (trivial) ?_ ?_
  ·intros; trivial
  rintro W7 S8 -
  refine go0 2 [] [] ?_
  refine hQ.to [.agg #[Vi 2,Vi en,.string es],.bool true] (fun H sH=>?_) (ix:=[1])
  exact rfl
 ·refine mQ Tryz.func132 (c:=Tryz.f132.body.getD .skip) (N:=31) ?_
  intro hbx hbad Q hQ
  refine go2 12 [.own,.own,.b 1 5] [] ?_
  intro b1 b2
  obtain ⟨b3,o4,rfl,-,c5⟩:=RS.row hr (hrow)
  refine nQ (c5.sees (Sees.refl _)) ?_
  refine go1 35 [.ix b3 o4 len c 0,.f 0 0,.cl 114 #[.map (some b),.agg #[Vi y.op,Vi y.k,Vi y.n,.string y.s,.string y.nm,.slice Au nu cu]] (.agg #[Vi 3,Vi en,.string es]),.own,.b 0 0,.b 0 0,.b 0 0,.b 0 0,.cl 131 #[Vi 9] (.agg #[Vi 5,Vi 9,Ve]),.b 1 0] [] ?_ (ho:=(And.intro (by first | omega | (simp; omega)) (And.intro (fun H sH=>ho _ _ (hyu.sees sH) (hm.sees sH)) (And.intro (fun H sH=>wK 9 _) (trivial)))))
  intro b6
  refine hQ.to [.agg #[Vi 5,Vi 9,Ve],.bool false] (fun H sH=>?_) (ix:=[1])
  exact rfl
 ·refine mQ Tryz.func132 (c:=Tryz.f132.body.getD .skip) (N:=31) ?_
  intro hbx hbad Q hQ
  refine go2 12 [.own,.own,.b 1 5] [] ?_
  intro b1 b2
  obtain ⟨b3,o4,rfl,-,c5⟩:=RS.row hr (hrow)
  refine nQ (c5.sees (Sees.refl _)) ?_
  refine go1 29 [.ix b3 o4 len c 0,.f 0 0,.cl 114 #[.map (some b),.agg #[Vi y.op,Vi y.k,Vi y.n,.string y.s,.string y.nm,.slice Au nu cu]] (.agg #[Vi 4,Vi en,.string es]),.own,.b 0 0,.b 0 0,.b 0 0] [] ?_ (ho:=(And.intro (by first | omega | (simp; omega)) (And.intro (fun H sH=>ho _ _ (hyu.sees sH) (hm.sees sH)) (trivial))))
  intro b6
  refine aV 6 0 [.ld 0 0,.pu,.ld 0 0,.pu,.st 1 0,.pu] [] (trivial) ?_ ?_
  ·intros; trivial
  rintro W7 S8 -
  refine go0 2 [] [] ?_
  refine hQ.to [.agg #[Vi 4,Vi en,.string es],.bool false] (fun H sH=>?_) (ix:=[1])
  exact rfl
 ·refine mQ Tryz.func132 (c:=Tryz.f132.body.getD .skip) (N:=31) ?_
  intro hbx hbad Q hQ
  refine go2 12 [.own,.own,.b 1 5] [] ?_
  intro b1 b2
  obtain ⟨b3,o4,rfl,-,c5⟩:=RS.row hr (hrow)
  refine nQ (c5.sees (Sees.refl _)) ?_
  refine go1 29 [.ix b3 o4 len c 0,.f 0 0,.cl 114 #[.map (some b),.agg #[Vi y.op,Vi y.k,Vi y.n,.string y.s,.string y.nm,.slice Au nu cu]] (.agg #[Vi 5,Vi en,.string es]),.own,.b 0 0,.b 0 0,.b 0 0,.b 0 0] [] ?_ (ho:=(And.intro (by first | omega | (simp; omega)) (And.intro (fun H sH=>ho _ _ (hyu.sees sH) (hm.sees sH)) (trivial))))
  intro b6
  refine aV 6 0 [.ld 0 0,.pu,.ld 0 0,.pu,.st 1 0,.pu] [] (trivial) ?_ ?_
  ·intros; trivial
  rintro W7 S8 -
  refine go0 2 [] [] ?_
  refine hQ.to [.agg #[Vi 5,Vi en,.string es],.bool false] (fun H sH=>?_) (ix:=[1])
  exact rfl
theorem bool_any (env:Env) (b:Nat) (x:Ex) (sl:Value) (h:Vw) (hx:IsArgs h x sl) (hm:MapAt h b (lK env)) (ho:∀ v h,IsArgs h x v→MapAt h b (lK env)→C0 Tryz.prog 114 #[.map (some b),.agg #[.int .i64 x.op,.int .i64 x.k,.int .i64 x.n,.string x.s,.string x.nm,v]] h (fun r _=>r=(mK env x).val)) (hok:OkV (mK env x)) :
  C0 Tryz.prog 133 #[.map (some b),.agg #[.int .i64 x.op,.int .i64 x.k,.int .i64 x.n,.string x.s,.string x.nm,sl]] h (fun r _=>r=(boolV (mK env x)).val):=by
 obtain ⟨A,len,c,rfl⟩:=hx.slice
 have hk:=ok_kinds hok
 generalize mK env x=e at *
 obtain ⟨ek,en,es⟩:=e
 obtain rfl | rfl | rfl | rfl | rfl:ek=1∨ek=2∨ek=3∨ek=4∨ek=5:=by simp only at hk; omega
 ·refine mQ Tryz.func133 (c:=Tryz.f133.body.getD .skip) (N:=19) ?_
  intro hbx hbad Q hQ
  refine go3 37 [.own,.own,.b 1 0,.cl 114 #[.map (some b),.agg #[Vi x.op,Vi x.k,Vi x.n,.string x.s,.string x.nm,.slice A len c]] (.agg #[Vi 1,Vi en,.string es]),.own,.b 0 0,.b 0 0,.cl 131 #[Vi 9] (.agg #[Vi 5,Vi 9,Ve]),.b 1 0] [] ?_ (ho:=(And.intro (fun H sH=>ho _ _ (hx.sees sH) (hm.sees sH)) (And.intro (fun H sH=>wK 9 _) (trivial))))
  intro b1 b2 b3
  refine hQ.to [.agg #[Vi 5,Vi 9,Ve]] (fun H sH=>?_) (ix:=[1])
  exact rfl
 ·refine mQ Tryz.func133 (c:=Tryz.f133.body.getD .skip) (N:=19) ?_
  intro hbx hbad Q hQ
  refine go3 38 [.own,.own,.b 1 0,.cl 114 #[.map (some b),.agg #[Vi x.op,Vi x.k,Vi x.n,.string x.s,.string x.nm,.slice A len c]] (.agg #[Vi 2,Vi en,.string es]),.own,.b 0 0,.b 0 0,.b 0 0,.b 0 0,.b 1 0] [] ?_ (ho:=(And.intro (fun H sH=>ho _ _ (hx.sees sH) (hm.sees sH)) (trivial)))
  intro b1 b2 b3
  refine hQ.to [.agg #[Vi 2,Vi en,.string es]] (fun H sH=>?_) (ix:=[1])
  exact rfl
 ·refine mQ Tryz.func133 (c:=Tryz.f133.body.getD .skip) (N:=19) ?_
  intro hbx hbad Q hQ
  refine go3 37 [.own,.own,.b 1 0,.cl 114 #[.map (some b),.agg #[Vi x.op,Vi x.k,Vi x.n,.string x.s,.string x.nm,.slice A len c]] (.agg #[Vi 3,Vi en,.string es]),.own,.b 0 0,.b 0 0,.b 0 0,.cl 131 #[Vi 9] (.agg #[Vi 5,Vi 9,Ve]),.b 1 0] [] ?_ (ho:=(And.intro (fun H sH=>ho _ _ (hx.sees sH) (hm.sees sH)) (And.intro (fun H sH=>wK 9 _) (trivial))))
  intro b1 b2 b3
  refine hQ.to [.agg #[Vi 5,Vi 9,Ve]] (fun H sH=>?_) (ix:=[1])
  exact rfl
 ·refine mQ Tryz.func133 (c:=Tryz.f133.body.getD .skip) (N:=19) ?_
  intro hbx hbad Q hQ
  refine go3 38 [.own,.own,.b 1 0,.cl 114 #[.map (some b),.agg #[Vi x.op,Vi x.k,Vi x.n,.string x.s,.string x.nm,.slice A len c]] (.agg #[Vi 4,Vi en,.string es]),.own,.b 0 0,.b 0 0,.b 0 0,.b 0 0,.b 1 0] [] ?_ (ho:=(And.intro (fun H sH=>ho _ _ (hx.sees sH) (hm.sees sH)) (trivial)))
  intro b1 b2 b3
  refine hQ.to [.agg #[Vi 4,Vi en,.string es]] (fun H sH=>?_) (ix:=[1])
  exact rfl
 ·refine mQ Tryz.func133 (c:=Tryz.f133.body.getD .skip) (N:=19) ?_
  intro hbx hbad Q hQ
  refine go3 38 [.own,.own,.b 1 0,.cl 114 #[.map (some b),.agg #[Vi x.op,Vi x.k,Vi x.n,.string x.s,.string x.nm,.slice A len c]] (.agg #[Vi 5,Vi en,.string es]),.own,.b 0 0,.b 0 0,.b 0 0,.b 0 0,.b 1 0] [] ?_ (ho:=(And.intro (fun H sH=>ho _ _ (hx.sees sH) (hm.sees sH)) (trivial)))
  intro b1 b2 b3
  refine hQ.to [.agg #[Vi 5,Vi en,.string es]] (fun H sH=>?_) (ix:=[1])
  exact rfl
end Go.Proofs.YtjpgjnldeafpkaaGreat
namespace Go.Proofs.YtjpgjnldeafpkaaGreat
open Go.RowKit
theorem vrows_snoc (l:List Vl) (e:Vl):vrows (l++[e])=vrows l++[e.cells]:=by simp [vrows]
def zV:Vl:=⟨0,0,⟨#[]⟩⟩
theorem lackV_step (p:Option Vl) (v:Vl) (l:List Vl) (h:v.k≠5):qV p (v :: l)=qV (if v.k=4 then some v else p) l:=by
 conv=>lhs; unfold qV
 rw [if_neg h]
theorem lackV_hit (p:Option Vl) (v:Vl) (l:List Vl) (h:v.k=5):qV p (v :: l)=some v:=by
 unfold qV
 rw [if_pos h]
theorem drop_at {α:Type} {l:List α} {k:Nat} {x:α} (h:l[k]?=some x):l.drop k=x :: l.drop (k + 1):=by
 obtain ⟨hk,rfl⟩:=List.getElem?_eq_some_iff.1 h
 exact List.drop_eq_getElem_cons hk
theorem all_any (env:Env) (b:Nat) (x:Ex) (sl:Value) (h:Vw) (hx:IsArgs h x sl) (hm:MapAt h b (lK env)) (hof:OfAll env b x.args) (hl3:x.args.length≤3) :
  C0 Tryz.prog 134 #[.map (some b),sl] h (fun v h'=>∃ A n c u,v=.tuple #[.slice A n c,u.val]∧(qV none (nK env x.args)).getD zV=u∧(qV none (nK env x.args)=none→n=x.args.length∧RS h' 3 (.slice A n c) (vrows (nK env x.args)))):=by
 obtain ⟨vs,hr,hvs⟩:=hx.form
 obtain ⟨A,cap,rfl,-,-,-⟩:=hr.form
 have hvl:=hvs.len
 have hrl:=sK hvl
 rw [hrl] at hr ⊢
 rw [oK]
 generalize hL:x.args.length=len at *
 have hel:(x.args.map (mK env)).length=len:=by rw [List.length_map,hL]
 refine mQ Tryz.func134 (c:=Tryz.f134.body.getD .skip) (N:=35) ?_
 intro hbx hbad Q hQ
 refine yQ 38 3 ?_
 refine go2 25 [.own,.own] [] ?_
 intro b1 b2
 refine vQ [0,1,0,1,1,1] [.block 0,.seq [1,1,1,1]] (fun (k:Nat) X=>∃ (W3:Vw) (v:Value) (pd:Option Vl),X W3 [(0,.map (some b)),(5,Vp b1),(7,Vp b2),(11,.slice A len cap),(12,Vi (len:Int)),(13,Vi (k:Int)),(6,v)] [.box b2 [Vi ((pd.getD zV).k),Vi ((pd.getD zV).n),.string ((pd.getD zV).s)],.box b1 [Vi 0,Vi 0,Ve],.row v 38 3 (vrows ((x.args.map (mK env)).take k))] []∧Sees h W3∧(k≤len)∧(qV none (x.args.map (mK env))=qV pd ((x.args.map (mK env)).drop k))) (fun k=>len - k) (0) (fun X q=>⟨h,(Vz),none,q _ _ _ _ ⟨rfl,by kernel_rfl⟩,Sees.refl _,Nat.zero_le _,rfl⟩) ?_
 rintro k a w ⟨W3,v,pd,hJ,S4,hk,hlk⟩; refine zQ hJ ?_; clear hJ a w
 refine go0 6 [] [] ?_
 rcases (by omega:k < len∨len=k) with hlt | hke
 ·obtain ⟨y,hy⟩:∃ y,x.args[k]?=some y:=⟨_,List.getElem?_eq_getElem (by omega)⟩
  obtain ⟨u,hu⟩:∃ u,vs[k]?=some u:=⟨_,List.getElem?_eq_getElem (by omega)⟩
  have hyu:=AllArgs.get hvs hy hu
  obtain ⟨Au,nu,cu,rfl⟩:=hyu.slice
  have hrow:(rK x.args vs)[k]?=some (exRow y (.slice Au nu cu)):=by show (List.zipWith exRow _ _)[k]?=_; rw [List.getElem?_zipWith,hy,hu]
  have ho:=hof y (List.mem_of_getElem? hy)
  have hek:(x.args.map (mK env))[k]?=some (mK env y):=by rw [List.getElem?_map,hy]; rfl
  rw [drop_at hek] at hlk
  have htk:=rY _ k _ hek
  have htl:((x.args.map (mK env)).take k).length=k:=by rw [List.length_take,hel]; omega
  generalize mK env y=e at *
  generalize x.args.map (mK env)=vals at *
  refine dV (t:=decide ((k:Int) < (len:Int))) (decide_eq_true (by omega)) ?_
  refine go0 6 [] [] ?_
  obtain ⟨b5,o6,rfl,-,c7⟩:=RS.row hr (hrow)
  refine nQ (c7.sees S4) ?_
  refine go2 23 [.ix b5 o6 len cap k,.f 0 0,.own,.b 0 0,.b 0 0,.cl 114 #[.map (some b),.agg #[Vi y.op,Vi y.k,Vi y.n,.string y.s,.string y.nm,.slice Au nu cu]] (.agg #[Vi e.k,Vi e.n,.string e.s]),.own,.b 0 0,.b 0 0] [] ?_ (ho:=(And.intro (by first | omega | (simp; omega)) (And.intro (fun H sH=>ho _ _ (hyu.sees (S4.trans sH)) (hm.sees (S4.trans sH))) (trivial))))
  intro b8 b9
  by_cases h5:e.k=5
  ·rw [lackV_hit _ _ _ h5] at hlk
   refine dV (t:=e.k == 5) (beq_iff_eq.2 h5) ?_
   refine go0 1 [] [] ?_
   refine aV 3 0 [.ld 0 0,.pu,.st 3 0] [] (trivial) ?_ ?_
   ·intros; trivial
   rintro W10 S11 -
   refine go0 5 [] [] ?_
   refine uQ ?_
   refine go0 2 [] [] ?_
   refine hQ.to [Vz,.agg #[Vi e.k,Vi e.n,.string e.s]] (fun H sH=>?_) (ix:=[3])
   exact ⟨none,0,0,e,rfl,by rw [hlk]; rfl,fun hn=>by rw [hlk] at hn; cases hn⟩
  ·skip
   rw [lackV_step _ _ _ h5] at hlk
   refine oQ (t:=e.k == 5) (beq_eq_false_iff_ne.2 h5) ?_
   refine go0 10 [.b 0 0] [] ?_
   by_cases h4:e.k=4
   ·rw [if_pos h4] at hlk
    refine dV (t:=e.k == 4) (beq_iff_eq.2 h4) ?_
    refine jV 9 [.b 0 0,.b 2 0,.b 0 0,.fix] [] ?_
    intro b12 W13 S14
    refine goa0 9 [.ap 4 0 (vrows (vals.take k)) [[Vi e.k,Vi e.n,.string e.s]]] [(32,Vi (IntKind.i64.wrap ((k:Int) + 1)),Vi ((k:Int) + 1))] ?_ (ho:=(And.intro (by rw [List.length_map,htl]; simp; omega) (trivial))) (hc:=(And.intro (jJ (by omega) (by omega)) (trivial)))
    intro v31 W15 S16
    refine tQ [(0,.map (some b)),(5,Vp b1),(7,Vp b2),(11,.slice (some ⟨b5,o6,none⟩) len cap),(12,Vi (len:Int)),(6,.slice (sA v31) (sN v31) (sC v31)),(13,Vi ((k:Int) + 1))] [.box b2 [Vi e.k,Vi e.n,.string e.s],.box b1 [Vi 0,Vi 0,Ve],.row (.slice (sA v31) (sN v31) (sC v31)) 38 3 ((vrows (vals.take k))++[[Vi e.k,Vi e.n,.string e.s]])] [] ?_
    exact cV (k + 1) (fun X q=>⟨W15,.slice (sA v31) (sN v31) (sC v31),some e,q _ _ _ _ (aY (by rw [htk,vrows_snoc]; try rfl)),(S4.trans (S14.trans S16)),by omega,hlk⟩) (by omega)
   ·skip
    rw [if_neg h4] at hlk
    refine oQ (t:=e.k == 4) (beq_eq_false_iff_ne.2 h4) ?_
    refine jV 6 [.b 0 0,.fix] [] ?_
    intro b17 W18 S19
    refine goa0 9 [.ap 4 0 (vrows (vals.take k)) [[Vi e.k,Vi e.n,.string e.s]]] [(32,Vi (IntKind.i64.wrap ((k:Int) + 1)),Vi ((k:Int) + 1))] ?_ (ho:=(And.intro (by rw [List.length_map,htl]; simp; omega) (trivial))) (hc:=(And.intro (jJ (by omega) (by omega)) (trivial)))
    intro v31 W20 S21
    refine tQ [(0,.map (some b)),(5,Vp b1),(7,Vp b2),(11,.slice (some ⟨b5,o6,none⟩) len cap),(12,Vi (len:Int)),(6,.slice (sA v31) (sN v31) (sC v31)),(13,Vi ((k:Int) + 1))] [.box b2 [Vi ((pd.getD zV).k),Vi ((pd.getD zV).n),.string ((pd.getD zV).s)],.box b1 [Vi 0,Vi 0,Ve],.row (.slice (sA v31) (sN v31) (sC v31)) 38 3 ((vrows (vals.take k))++[[Vi e.k,Vi e.n,.string e.s]])] [] ?_
    exact cV (k + 1) (fun X q=>⟨W20,.slice (sA v31) (sN v31) (sC v31),pd,q _ _ _ _ (aY (by rw [htk,vrows_snoc]; try rfl)),(S4.trans (S19.trans S21)),by omega,hlk⟩) (by omega)
 ·skip
  have hta:(x.args.map (mK env)).take k=x.args.map (mK env):=List.take_of_length_le (by omega)
  rw [hta]
  rw [List.drop_eq_nil_of_le (by omega)] at hlk
  refine pQ 2 (v:=v) (e:=38) (kk:=3) (l:=vrows (x.args.map (mK env))) ?_; intro A2 c2 hE_v hc_v hm_v
  rw [show (vrows (x.args.map (mK env))).length=len from by first | omega | (simp; done) | (simp; omega)] at hE_v hc_v
  rw [hE_v]
  refine oQ (t:=decide ((k:Int) < (len:Int))) (decide_eq_false (by omega)) ?_
  refine go0 2 [] [] ?_
  refine uQ ?_
  refine go0 3 [] [] ?_
  refine aV 4 0 [.pu,.ld 0 0,.pu,.st 1 0] [] (trivial) ?_ ?_
  ·intros; trivial
  rintro W22 S23 -
  refine go0 2 [] [] ?_
  refine tQ [(5,Vp b1),(4,.slice A2 len c2)] [.box b2 [Vi ((pd.getD zV).k),Vi ((pd.getD zV).n),.string ((pd.getD zV).s)],.box b1 [Vi ((pd.getD zV).k),Vi ((pd.getD zV).n),.string ((pd.getD zV).s)],.row (.slice A2 len c2) 38 3 (vrows (x.args.map (mK env)))] [] ?_
  refine hQ.toJ [.slice A2 len c2,.agg #[Vi ((pd.getD zV).k),Vi ((pd.getD zV).n),.string ((pd.getD zV).s)]] [] (fun a w hJ=>?_) (ix:=[1])
  have fr:=hJ.j.rowOut0 (v:=.slice A2 len c2) (e:=38) (k:=3) (l:=vrows (x.args.map (mK env))) 2 (by kernel_rfl) rfl
  exact ⟨A2,len,c2,pd.getD zV,rfl,by rw [hlk]; rfl,fun _=>⟨rfl,fr⟩⟩
end Go.Proofs.YtjpgjnldeafpkaaGreat
namespace Go.Proofs.YtjpgjnldeafpkaaGreat
open Go.RowKit
theorem ex_ind {p:Ex→Prop} (h:∀ x:Ex,(∀ y∈x.args,p y)→p x) (x:Ex):p x:=by
 have key:∀ (m:Nat) (x:Ex),(szE x).1≤m→p x:=by
  intro m
  induction m with
  | zero=>intro x hx; have:=nY x; omega
  | succ m ih =>
   intro x hx
   refine h x fun y hy=>ih y ?_
   have h1:=mY x
   have h2:=(oY hy).1
   rw [h1] at hx
   simp only at hx
   omega
 exact key _ x (Nat.le_refl _)
mutual
def lX:Ex→List ByteArray
 | .mk op _ _ _ nm args=>(if op=2 then [nm] else [])++mX args
def mX:List Ex→List ByteArray
 | []=>[]
 | x :: l=>lX x++mX l
end
theorem refsE_eq (x:Ex):lX x=(if x.op=2 then [x.nm] else [])++mX x.args:=by
 obtain ⟨a,b,c,d,e,l⟩:=x
 rw [lX]; rfl
theorem refsL_app (l m:List Ex):mX (l++m)=mX l++mX m:=by
 induction l with
 | nil=>simp [mX]
 | cons x l ih=>rw [List.cons_append,mX,mX,ih,List.append_assoc]
theorem mem_refsL {s:ByteArray}:∀ {l:List Ex},s∈mX l↔∃ x∈l,s∈lX x
 | []=>by simp [mX]
 | x :: l=>by rw [mX,List.mem_append,mem_refsL (l:=l)]; simp
theorem refs_op (op:Int) (l:List Ex) (h:op≠2):lX (opE op l)=mX l:=by
 rw [refsE_eq,if_neg (show ¬ (opE op l).op=2 from h)]; rfl
theorem refs_ref (s:ByteArray):lX (refE s)=[s]:=by
 rw [refsE_eq,if_pos (show (refE s).op=2 from rfl)]; rfl
mutual
def putE (n:ByteArray) (y:Ex):Ex→Ex
 | .mk op k m s nm args=>if op=2∧nm=n then y else .mk op k m s nm (putL n y args)
def putL (n:ByteArray) (y:Ex):List Ex→List Ex
 | []=>[]
 | x :: l=>putE n y x :: putL n y l
end
theorem ref_shape {x:Ex} (h:WfE x) (h2:x.op=2):x=refE x.nm∧rJ x.nm.data.toList:=by
 rcases h.top with ⟨h1,-⟩ | ⟨h1,hn,hk,hm,hs,ha⟩ | ⟨h1,-⟩
 ·omega
 ·obtain ⟨a,b,c,d,e,l⟩:=x
  simp only [Ex.op,Ex.k,Ex.n,Ex.s,Ex.args] at h1 hk hm hs ha
  have ha:l=[]:=List.length_eq_zero_iff.1 ha
  subst h1 hk hm hs ha
  exact ⟨rfl,hn⟩
 ·omega
theorem ref_args {x:Ex} (h:WfE x) (h2:x.op=2):x.args=[]:=by rw [(ref_shape h h2).1]; rfl
end Go.Proofs.YtjpgjnldeafpkaaGreat
namespace Go.Proofs.YtjpgjnldeafpkaaGreat
open Go.RowKit
def Grows (w v:Vl):Prop:=w.k=4∨v=w∨(v.k=5∧w.k=5)
theorem Grows.rfl' (v:Vl):Grows v v:=.inr (.inl rfl)
inductive GrowsL:List Vl→List Vl→Prop
 | nil:GrowsL [] []
 | cons {w v:Vl} {l m:List Vl} (h:Grows w v) (k:GrowsL l m):GrowsL (w :: l) (v :: m)
theorem GrowsL.hd {l m:List Vl} (h:GrowsL l m) (i:Nat):Grows (hdV l i) (hdV m i):=by
 induction h generalizing i with
 | nil=>exact .rfl' _
 | cons h k ih =>
  cases i with
  | zero=>exact h
  | succ i=>exact ih i
theorem GrowsL.map {f g:Ex→Vl}:∀ {l:List Ex},(∀ y∈l,Grows (f y) (g y))→GrowsL (l.map f) (l.map g)
 | [],_=>.nil
 | x :: l,h=>.cons (h x (by simp)) (GrowsL.map fun y hy=>h y (by simp [hy]))
end Go.Proofs.YtjpgjnldeafpkaaGreat
namespace Go.Proofs.YtjpgjnldeafpkaaGreat
open Go.RowKit
end Go.Proofs.YtjpgjnldeafpkaaGreat
