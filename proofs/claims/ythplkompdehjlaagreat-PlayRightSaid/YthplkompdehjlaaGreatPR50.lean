/-
  How a law's argument of type []Raw is opened: a slice of rows.
-/
import Derived.Test.YthplkompdehjlaaGreatPR49
import Derived.Test.YthplkompdehjlaaGreatPR40
import Derived.Shelf.Spec.SlicesInsert
set_option maxHeartbeats 8000000
set_option maxRecDepth 100000
namespace Go.Proofs.YthplkompdehjlaaGreat
open Go.ChangeShapes Go.WideShapes Go.ChangeAt Go.RowKit Go.Deep
@[reducible] def RawD.cells (r:RawD):List Value:=[.int .i64 r.k,.int .i64 r.a,.int .i64 r.b,.string r.t]
def RawsOf (w:World) (v:Value) (l:List RawD):Prop:=Sl w 4 v (l.map RawD.cells)/\l.length * 40<=reachBytes/\∀ r∈l,r.ok
section
variable {H:Type} {enc:TypeId × Value->H} {w:World} {base:Nat} {sp:Nat->Bool} {held:Bool}
theorem open_rows {r:Reach} {b0:Nat} {v:Value} {d:DataW H} {p:List MemPlace} (hv:Value.okWide Tryz.prog w r b0 22 v) (h:DataW.Trod enc Tryz.prog w 0 (λ_=>true) held 22 v d p)
  (hz:∀ es ss,d=.slice es ss->(es.length + ss.length) * Tryz.prog.bytesOf 24<=reachBytes):∃ l:List RawD,RawsOf w v l:=by
 obtain ⟨a,len,cap,rfl⟩:=okWide_slice Tryz.underlying22 hv;obtain ⟨fuel,hf⟩:=h;rcases open_slice_fields Tryz.underlying22 Tryz.underlying24 (by kernel_rfl) cellsRaw hf with ⟨hcs,_⟩ | ⟨x,l,c,m,D,Pl,hcs,_,hl,hm,hmm,hx,hi⟩
 ·simp [Value.cells] at hcs;obtain ⟨rfl,rfl,rfl⟩:=hcs;exact ⟨[],.inl ⟨none,0,rfl,λ_=>rfl,Kj _,rfl⟩,by simp,by simp⟩
 ·simp [Value.cells] at hcs;obtain ⟨rfl,rfl,rfl⟩:=hcs;simp only [Qk] at hx;have hw:=hz _ _ hx.1;rw [bytesRaw] at hw;simp at hmm;subst hmm;simp only [Hj,List.length_range] at hw;have hcap:m * 40<=reachBytes:=by rw [show len + (m - len)=m by omega] at hw; exact hw
  have one:∀ i,i < len->∃ q:RawD,q.ok/\w.cell? (x.add (i * 4))=some (.int .i64 q.k)/\w.cell? (x.add (i * 4 + 1))=some (.int .i64 q.a)/\w.cell? (x.add (i * 4 + 2))=some (.int .i64 q.b)/\w.cell? (x.add (i * 4 + 3))=some (.string q.t):=by
   intro i hlt;obtain ⟨ys,n,-,-,-,hf⟩:=hi i (by omega);obtain ⟨v0,y0,c0,-,t0⟩:=hf 0 _ rfl;obtain ⟨v1,y1,c1,-,t1⟩:=hf 1 _ rfl;obtain ⟨v2,y2,c2,-,t2⟩:=hf 2 _ rfl;obtain ⟨v3,y3,c3,-,t3⟩:=hf 3 _ rfl;obtain ⟨n0,e0,-,w0⟩:=DataW.trod_int Tryz.underlying3 t0;obtain ⟨n1,e1,-,w1⟩:=DataW.trod_int Tryz.underlying3 t1;obtain ⟨n2,e2,-,w2⟩:=DataW.trod_int Tryz.underlying3 t2;obtain ⟨s,e3,-,w3⟩:=DataW.trod_string Tryz.underlying9 t3;simp only [Fk,Dk] at e0 e1 e2 e3;subst e0 e1 e2 e3;exact ⟨⟨n0,n1,n2,s⟩,⟨⟨int_lo w0,int_hi w0⟩,⟨int_lo w1,int_hi w1⟩,⟨int_lo w2,int_hi w2⟩,w3⟩,c0,c1,c2,c3⟩
  haveI:Inhabited RawD:=⟨⟨0,0,0,ByteArray.empty⟩⟩
  obtain ⟨f,hfn⟩:=choose_lt one;refine ⟨(List.range len).map f,?_,by simp; omega,?_⟩
  ·rcases Nat.eq_zero_or_pos len with h0 | hpos
   ·left; subst h0
    exact ⟨some x,m,rfl,(λk=>by cases k),hm,rfl⟩
   ·right
    have c0:=(hfn 0 hpos).2.1;obtain ⟨b,off,spot⟩:=x;have hb:b < w.heap.size:=World.block_lt_of_cell? w ⟨b,off,spot⟩ (by simpa [Addr.add] using c0);have hs:spot=none:=by
     cases spot with
     | none=>rfl
     | some k =>
      exfalso
      simp only [Nat.zero_mul,Addr.add,if_true] at c0;unfold World.cell? at c0
      split at c0 <;> simp at c0
    subst hs;refine ⟨b,off,m,by simp,by simpa using hl,hm,hb,λi r hi j u hj=>?_⟩;rw [Nj] at hi;obtain ⟨q,hq,rfl⟩:=Dw.1 hi;have hlt:i < len:=by
     have:=(Oj.1 hq).1; simpa using this
    have e:f i=q:=by simpa [hlt] using hq
    subst e;obtain ⟨-,k0,k1,k2,k3⟩:=hfn i hlt;have ad:∀ n,(⟨b,off,none⟩:Addr).add n=⟨b,off + n,none⟩:=by intro n; unfold Addr.add; split <;> simp_all
    rw [ad] at k0 k1 k2 k3
    match j,hj with
    | 0,hj=>simp [RawD.cells] at hj; subst hj; exact k0
    | 1,hj=>simp [RawD.cells] at hj; subst hj; rw [Zv]; exact k1
    | 2,hj=>simp [RawD.cells] at hj; subst hj; rw [Zv]; exact k2
    | 3,hj=>simp [RawD.cells] at hj; subst hj; rw [Zv]; exact k3
  ·intro r hr;obtain ⟨i,hi',rfl⟩:=Qj.1 hr;exact (hfn i (by simpa using hi')).1
end
open Go.RowKit
theorem info_ltr:(Tryz.prog.info? 66).map (λi=>(i.zero,i.size,i.bytes))=some (some (.agg #[.string ⟨#[]⟩,.int .i64 0,.int .i64 0,.int .i64 0,.string ⟨#[]⟩,.int .i64 0,.int .i64 0,.string ⟨#[]⟩]),8,88):=by kernel_rfl
theorem clone_ltr (v:Value) (l:List (List Value)) (w:World) (h:Sl w 8 v l) (hk:Len 8 l) (h1:One l) (hl:l.length * 88<=140737488355328) :
  Calls Tryz.prog 105 #[v] w (oJ 66 8 l w):=by
 have q22:∀ (w:World) (a:Option Addr) (n c n' c':Nat),(binOp .eql 36 (.slice a n c) (.slice none n' c')).run Tryz.prog w=.ok (.bool a.isNone) w:=λw a n c n' c'=>Tx w _ _ a n c n' c' Tryz.underlying36;obtain ⟨A,cap,rfl,c1,c2,hA⟩:=h.form
 cases A with
 | none =>
  obtain rfl:=hA rfl;have h0:l.length=0:=by omega
  obtain rfl:=Oq.1 h0
  go_enter Tryz.func105,Tryz.ntmps105
  go_wp2_with fail
  go_ret
  exact ⟨_,rfl,⟨by simp,.inl ⟨rfl,rfl⟩⟩,Evo.refl _⟩
 | some a =>
  have HR:=Fj h;have HK:=Fj hk;have H1:=Fj h1;clear h hk h1
  go_enter Tryz.func105,Tryz.ntmps105
  go_wp2_with (at_builtin; refine dA rfl (.tmp 5) (.tmp 6) 36 rfl 66 _ 8 88 Tryz.underlying36 info_ltr rfl (by decide) w ((Evo.refl _).alloc _) [] l _ _ rfl rfl ⟨Lx w #[] 0 (Ij _) (Kj _) (by simp)⟩ (HR.out.at ((Evo.refl _).alloc _)) HK.out H1.out ?c1 ?c2 ?_)
  case c1=>simp; omega
  case c2=>simpa using hl
  intro v' w1 hown hbl hg;have HW:=Fj (⟨hown,hbl⟩:Own w1 w.heap.size 66 8 v' ([]++l).length ([]++l).flatten/\Evo w w1);clear hown hg hbl
  go_wp2_with fail
  go_ret
  exact ⟨_,rfl,HW.out.1,HW.out.2⟩
attribute [local go_sem] Evo.refl Evo.alloc Evo.drew Evo.drewN
@[reducible] def Ltr.val (x:Ltr):Value:=.agg #[.string x.f,.int .i64 x.id,.int .i64 x.kk,.int .i64 x.kn,.string x.ks,.int .i64 x.ak,.int .i64 x.an,.string x.as']
theorem net_at (v:Value) (l:List Ltr) (i:Nat) (x:Ltr) (w:World) (h:Sl w 8 v (lcs l)) (hl:l.length<=24) (hok:∀ x∈l,OkL x) (hi:l[i]?=some x) :
  Calls Tryz.prog 104 #[v,.int .i64 i] w (GivesE (.tuple #[x.val,.int .i64 0]) w):=by
 have hlt:=(Oj.1 hi).1;obtain ⟨A,cap,rfl,hcap,-⟩:=h.form;obtain ⟨b,off,rfl,hbl,hc⟩:=h.row (i:=i) (r:=x.cells) (by rw [Nj,hi]; rfl);have c0:∀ W,Evo w W->W.cell? ⟨b,off + i * 8,none⟩=some _:=hc 0 _ rfl;have c1:∀ W,Evo w W->W.cell? ⟨b,off + i * 8 + 1,none⟩=some _:=hc 1 _ rfl;have c2:∀ W,Evo w W->W.cell? ⟨b,off + i * 8 + 2,none⟩=some _:=hc 2 _ rfl;have c3:∀ W,Evo w W->W.cell? ⟨b,off + i * 8 + 3,none⟩=some _:=hc 3 _ rfl;have c4:∀ W,Evo w W->W.cell? ⟨b,off + i * 8 + 4,none⟩=some _:=hc 4 _ rfl;have c5:∀ W,Evo w W->W.cell? ⟨b,off + i * 8 + 5,none⟩=some _:=hc 5 _ rfl;have c6:∀ W,Evo w W->W.cell? ⟨b,off + i * 8 + 6,none⟩=some _:=hc 6 _ rfl;have c7:∀ W,Evo w W->W.cell? ⟨b,off + i * 8 + 7,none⟩=some _:=hc 7 _ rfl;have HC:=Fj (λW (hW:Evo w W)=>net_check _ l W (h.at hW) hl hok);rw [Hj] at *;have i0:(0:Int)<=(i:Int):=by omega
 have i1:(i:Int) < (l.length:Int):=by omega
 have ex:=(Evo.refl w).alloc (.cells #[.string ⟨#[]⟩,.int .i64 0,.int .i64 0,.int .i64 0,.string ⟨#[]⟩,.int .i64 0,.int .i64 0,.string ⟨#[]⟩] 66);have bx:=Box.new w #[.string ⟨#[]⟩,.int .i64 0,.int .i64 0,.int .i64 0,.string ⟨#[]⟩,.int .i64 0,.int .i64 0,.string ⟨#[]⟩] 66;have EX:=Fj ex;have BX:=Fj bx;clear h hok hi hc ex bx
 go_enter Tryz.func104,Tryz.ntmps104
 go_wp2_with fail
 with_reducible refine (HC.out _ EX.out).mono ?_
 rintro e u1 ⟨rfl,e1⟩;have b1:=BX.out.keep e1.below;have x0:=b1.cells 0 _ rfl;have x1:=b1.cells 1 _ rfl;have x2:=b1.cells 2 _ rfl;have x3:=b1.cells 3 _ rfl;have x4:=b1.cells 4 _ rfl;have x5:=b1.cells 5 _ rfl;have x6:=b1.cells 6 _ rfl;have x7:=b1.cells 7 _ rfl;have y0:=b1.free 0;have y1:=b1.free 1;have y2:=b1.free 2;have y3:=b1.free 3;have y4:=b1.free 4;have y5:=b1.free 5;have y6:=b1.free 6;have y7:=b1.free 7;have ew:=EX.out.trans e1;have EW:=Fj ew
 go_wp2_with fail
 refine bodyPost_ret (v:=.tuple #[x.val,.int .i64 0]) (by simp [results,Tryz.results104,go_sem,x0,x1,x2,x3,x4,x5,x6,x7]) rfl ?_;refine ⟨rfl,?_⟩
 repeat (first | with_reducible refine Evo.set ?_ (Evo.refl _) _ _ | exact EW.out)
theorem delete_ltr (v:Value) (l:List (List Value)) (i p:Nat) (w x:World) (hE:Evo x w) (h:Own w x.heap.size 66 8 v l.length l.flatten) (hk:Len 8 l) (h1:One l) (hl:l.length=p + 1) (hi:i<=p) (hp:p<=1000000) :
  Calls Tryz.prog 106 #[v,.int .i64 i,.int .i64 ((i:Int) + 1)] w (λe w'=>∃ v',e=.returned v'/\Sl w' 8 v' (l.eraseIdx i)/\Evo x w'):=by
 have hS:=Sl.of_own hk h;obtain ⟨h⟩:=h;rcases h.2 with ⟨rfl,h0⟩ | ⟨g,cap,cur,rfl,hbg,hg,hn,hm,hs,ht⟩
 ·omega
 rw [hl] at hn;have hgl:g < w.heap.size:=(Pk.1 hg).1
 -- the cells
 have hrow:∀ q r,l[q]?=some r->∀ j u,r[j]?=some u->w.cell? ⟨g,q * 8 + j,none⟩=some u:=by
  intro q r hq j u hj;obtain ⟨b,off,e,hb,hc⟩:=hS.row hq;simp only [Wj,Addr.mk.injEq] at e;obtain ⟨rfl,rfl,-⟩:=e
  have:=hc j u hj w (Evo.refl _)
  rwa [Cq] at this
 have hsome:∀ W:World,W.heap[g]?=w.heap[g]?->∀ o,o < cap * 8->(W.cell? ⟨g,o,none⟩).isSome=true:=by
  intro W hW o ho;simp only [World.cell?,hW,hg];simp [hs,ho]
 have hfree:∀ W:World,W.heap[g]?=w.heap[g]?->∀ o,W.frozen? ⟨g,o,none⟩=false:=by
  intro W hW o;simp only [World.frozen?,hW,hg];simp
 obtain ⟨A,hA⟩:∃ A,A=some (⟨g,0,none⟩:Addr):=⟨_,rfl⟩;have hS2:=hS;rw [<- hA] at hS2;rw [hl] at hS2;obtain ⟨A',eA,hd⟩:=hS2.drop' (i + 1) (by omega);have hdn:∃ b off,A'=some ⟨b,off,none⟩/\(∀ j u,(l.drop (i + 1)).flatten[j]?=some u->∀ W,Evo w W->W.cell? ((⟨b,off,none⟩:Addr).add j)=some u):=by
  rcases hd with ⟨A2,cap2,e,hA2,hm2,h0⟩ | ⟨b,off,cap',e,c1,c2,hb,hc⟩
  ·rw [h0,<- eA,hA]
   by_cases hci:cap=i + 1
   ·exact ⟨g,0,by rw [Cj hci],by simp⟩
   ·exact ⟨g,0 + (i + 1) * 8,by rw [Bj hci]; simp [addr_add],by simp⟩
  ·simp only [Jk] at e;refine ⟨b,off,e.1,λj u hj W hW=>?_⟩;obtain ⟨q,r,m,e1,e2,e3⟩:=flat_split (k:=8) _ (λr hr=>hk r (Rq hr)) j u hj
   have:=hW.cell hb (hc q r e1 m u e2)
   rw [addr_add,e3,<- Zv];exact this
 obtain ⟨b',off',rfl,hsrc⟩:=hdn;obtain ⟨i0,hi0,hz0,hz1,hz2⟩:=info_parts info_ltr;have hnl:(l.drop (i + 1)).flatten.length=(p - i) * 8:=by rw [lQ (k:=8) _ (λr hr=>hk r (Rq hr)),Kv,hl]; congr 1; omega
 have hone:∀ u∈(l.drop (i + 1)).flatten,u.oneCell'=true:=λu hu=>by
  obtain ⟨r,hr,hur⟩:=List.mem_flatten.1 hu;exact h1 r (Rq hr) u hur
 have hspare:∀ j,j < (l.drop (i + 1)).flatten.length->(w.drew.cell? ⟨g,0 + i * 8 + j,none⟩).isSome=true/\w.drew.frozen? ⟨g,0 + i * 8 + j,none⟩=false:=λj hj=>by
  rw [hnl] at hj;refine ⟨hsome w.drew rfl _ ?_,hfree w.drew rfl _⟩;omega
 have X:Hid (∀ W,W=w.drew.setCells g (0 + i * 8) (l.drop (i + 1)).flatten->∀ ty,(Builtin.clear_ #[36] ty #[.slice (some ⟨g,p * 8,none⟩) 1 (cap - p)]).run Tryz.prog W=.ok (.tuple #[]) (W.setCells g (p * 8) [.string ⟨#[]⟩,.int .i64 0,.int .i64 0,.int .i64 0,.string ⟨#[]⟩,.int .i64 0,.int .i64 0,.string ⟨#[]⟩])):=by
  intro W hW ty;have zv:∀ w,(zeroValue 66).run Tryz.prog w=.ok (.agg #[.string ⟨#[]⟩,.int .i64 0,.int .i64 0,.int .i64 0,.string ⟨#[]⟩,.int .i64 0,.int .i64 0,.string ⟨#[]⟩]) w:=Tryz.zeroValue66;refine run_clear_row _ _ ty _ [.string ⟨#[]⟩,.int .i64 0,.int .i64 0,.int .i64 0,.string ⟨#[]⟩,.int .i64 0,.int .i64 0,.string ⟨#[]⟩] Tryz.underlying36 zv (by kernel_rfl) (by simp [Value.oneCell']) _ _ _ (λj hj=>?_) (λj hj=>?_)
  ·rw [hW];exact World.isSome_setCells g _ _ _ _ (hsome w.drew rfl _ (by simp at hj; omega))
  ·rw [hW,World.frozen?_setCells];exact hfree w.drew rfl _
 have F:Hid (Sl ((w.drew.setCells g (0 + i * 8) (l.drop (i + 1)).flatten).setCells g (p * 8) [.string ⟨#[]⟩,.int .i64 0,.int .i64 0,.int .i64 0,.string ⟨#[]⟩,.int .i64 0,.int .i64 0,.string ⟨#[]⟩]) 8 (.slice (some ⟨g,0,none⟩) p cap) (l.eraseIdx i)/\Evo x ((w.drew.setCells g (0 + i * 8) (l.drop (i + 1)).flatten).setCells g (p * 8) [.string ⟨#[]⟩,.int .i64 0,.int .i64 0,.int .i64 0,.string ⟨#[]⟩,.int .i64 0,.int .i64 0,.string ⟨#[]⟩])):=by
  have hel:(l.eraseIdx i).length=p:=by rw [List.length_eraseIdx]; split <;> omega
  have hEv:Evo x ((w.drew.setCells g (0 + i * 8) (l.drop (i + 1)).flatten).setCells g (p * 8) [.string ⟨#[]⟩,.int .i64 0,.int .i64 0,.int .i64 0,.string ⟨#[]⟩,.int .i64 0,.int .i64 0,.string ⟨#[]⟩]):=(hE.drew.setCells hbg _ _).setCells hbg _ _;refine ⟨.inr ⟨g,0,cap,by rw [hel],by omega,hm,?_,?_⟩,hEv⟩
  ·have h2:Evo w ((w.drew.setCells g (0 + i * 8) (l.drop (i + 1)).flatten).setCells g (p * 8) [.string ⟨#[]⟩,.int .i64 0,.int .i64 0,.int .i64 0,.string ⟨#[]⟩,.int .i64 0,.int .i64 0,.string ⟨#[]⟩])\/True:=.inr trivial
   have:∀ (vs:List Value) (o:Nat) (w:World),(w.setCells g o vs).heap.size=w.heap.size:=by
    intro vs
    induction vs with
    | nil=>intro o w; rfl
    | cons v r ih=>intro o w; show ((w.setCell ⟨g,o,none⟩ v).setCells g (o + 1) r).heap.size=_; rw [ih]; simp [World.setCell]
   rw [this,this]; exact hgl
  ·rw [Cq];exact del_rows (w:=w.drew) hk hl hi hrow [.string ⟨#[]⟩,.int .i64 0,.int .i64 0,.int .i64 0,.string ⟨#[]⟩,.int .i64 0,.int .i64 0,.string ⟨#[]⟩] rfl
 obtain ⟨W1,hW1⟩:∃ W1,W1=w.drew.setCells g (0 + i * 8) (l.drop (i + 1)).flatten:=⟨_,rfl⟩;have hcl:=X.out W1 hW1;have HW:=Fj hW1;rw [<- hW1] at F;clear X hW1;have HSR:=Fj hsrc;have HNL:=Fj hnl;have H1:=Fj hone;have HSP:=Fj hspare;have HA:=Fj hA;clear hsrc hnl hone hspare hsome hfree hrow hS2 hS hd ht hg h hs;rw [<- hA];clear hA;have n0:(0:Int)<=(i:Int):=by omega
 have n1:(i:Int)<=(p:Int):=by omega
 have n2:(p:Int) + 1<=(cap:Int):=by omega
 have n3:((i:Int) == (i:Int) + 1)=false:=Lj.2 (by omega);have n6:(i:Int)<=(cap:Int):=by omega
 have n7:(i:Int) + 1<=(p:Int) + 1:=by omega
 have n8:(0:Int)<=(i:Int) + 1:=by omega
 have n4:¬ cap=p:=by omega
 have n5:p + 1 - p=1:=by omega
 rw [hl]
 go_enter Tryz.func106,Tryz.ntmps106
 go_wp2_with fail
 go_region_law (refine step_append_room rfl (.tmp 22) (.tmp 25) 36 rfl 66 i0 8 Tryz.underlying36 hi0 hz1 g 0 i cap (Ej (λA=>Value.slice A i cap) HA.out) ⟨b',off',none⟩ _ _ (l.drop (i + 1)).flatten rfl (by first | exact HNL.out | (rw [HNL.out]; congr 1; omega)) (λj u hj=>HSR.out j u hj _ ((Evo.refl _).drew)) H1.out (by omega) HSP.out ?_; rw [<- HW.out]; first | rw [show i + (p - i)=p from by omega] | rw [show i + (p + 1 - (i + 1))=p from by omega])
 go_wp2_with fail
 go_ret
 exact ⟨_,rfl,F.out⟩
attribute [local go_sem] Evo.refl Evo.alloc Evo.drew Evo.drewN
def LOwn (l:List Ltr) (w:World) (e:Ending) (w':World):Prop:=∃ v,e=.returned (.tuple #[v,.int .i64 0])/\Own w' w.heap.size 66 8 v (lcs l).length (lcs l).flatten/\Evo w w'
theorem eraseIdx_map {α β:Type} (f:α->β):∀ (l:List α) (i:Nat),(l.map f).eraseIdx i=(l.eraseIdx i).map f
 | [],i=>by simp
 | x :: l,0=>by simp
 | x :: l,i + 1=>by
  have:=eraseIdx_map f l i
  simp only [Ck,List.eraseIdx_cons_succ] at this ⊢;rw [this]
theorem net_lose (v:Value) (l:List Ltr) (i:Nat) (w:World) (h:Sl w 8 v (lcs l)) (hl:l.length<=24) (hok:∀ x∈l,OkL x) (hi:i < l.length) :
  Calls Tryz.prog 81 #[v,.int .i64 i] w (LOwn (l.eraseIdx i) w):=by
 obtain ⟨x,hx⟩:∃ x,l[i]?=some x:=⟨_,Gj hi⟩;have HA:=Fj (net_at v l i x w h hl hok hx);have HL:=Fj (λW (hW:Evo w W)=>clone_ltr v (lcs l) W (h.at hW) (lcs_len _) (lcs_one _) (by simp; omega));have HE:=Fj (eraseIdx_map Ltr.cells l i);obtain ⟨p,hp⟩:∃ p,l.length=p + 1:=⟨l.length - 1,by omega⟩;have HP:=Fj (show (lcs l).length=p + 1 by simpa using hp);have hip:i<=p:=by omega
 have hp2:p<=24:=by omega
 have hel:(l.eraseIdx i).length<=24:=by rw [List.length_eraseIdx]; split <;> omega
 clear h hok hi hp hl hx
 go_enter Tryz.func81,Tryz.ntmps81
 go_wp2_with fail
 with_reducible refine (HA.out).mono ?_
 rintro e u1 ⟨rfl,e1⟩;have ee:=(Evo.refl u1).alloc (.cells #[.string x.f,.int .i64 x.id,.int .i64 x.kk,.int .i64 x.kn,.string x.ks,.int .i64 x.ak,.int .i64 x.an,.string x.as'] 66);have EE:=Fj (e1.trans ee);clear e1 ee
 go_wp2_with fail
 with_reducible refine (HL.out _ EE.out).mono ?_
 rintro e u3 ⟨v1,rfl,hown,e3⟩;have hd:=delete_ltr v1 (lcs l) i p u3 _ e3 hown (lcs_len _) (lcs_one _) HP.out hip (by omega);have HD:=Fj hd;clear hd hown e3
 go_wp2_with fail
 with_reducible refine (HD.out).mono ?_
 rintro e u4 ⟨v2,rfl,hs,e5⟩;rw [HE.out] at hs;have hc:=clone_ltr v2 (lcs (l.eraseIdx i)) u4 hs (lcs_len _) (lcs_one _) (by simp; omega);have HF:=Fj hc;have E6:=Fj (EE.out.trans e5);clear hc hs e5
 go_wp2_with fail
 with_reducible refine (HF.out).mono ?_
 rintro e u5 ⟨v3,rfl,hown,e7⟩;have hf:=Fj (Aj (hown.low E6.out.size) (E6.out.trans e7));clear hown e7
 go_wp2_with fail
 go_ret2
 exact ⟨_,rfl,hf.out⟩
def Ltr.ans (x:Ltr) (k n:Int) (s:ByteArray):Ltr:={ x with ak:=k,an:=n,as':=s }
set_option linter.unusedVariables false
theorem rX {base g n cap size:Nat} {e:TypeId}:∀ (vs:List Value) (o:Nat) (w:World) (xs:List Value),w.ownsRow base e size (.slice (some ⟨g,0,none⟩) n cap) n xs->o + vs.length<=n * size->(w.setCells g o vs).ownsRow base e size (.slice (some ⟨g,0,none⟩) n cap) n (eY xs o vs)
 | [],o,w,xs,h,_=>by
  show w.ownsRow base e size _ n (xs.take o++[]++xs.drop (o + 0))
  simpa using h
 | v :: r,o,w,xs,h,hl=>by
  simp only [Tk] at hl;have hx:=h.1;rw [<- put_cons xs o v r (by omega)];exact rX r (o + 1) _ _ (h.stored o v).1 (by omega)
theorem Low.setCells {w w':World} {m:List Nat} {g:Nat} (h:Low m w w') (hg:g∈m\/w.heap.size<=g) (o:Nat) (vs:List Value):Low m w (w'.setCells g o vs):=by
 have hs:∀ (vs:List Value) (o:Nat) (w:World),(w.setCells g o vs).heap.size=w.heap.size:=by
  intro vs
  induction vs with
  | nil=>intro o w; rfl
  | cons v r ih=>intro o w; show ((w.setCell ⟨g,o,none⟩ v).setCells g (o + 1) r).heap.size=_; rw [ih]; simp [World.setCell]
 have ht:∀ (vs:List Value) (o:Nat) (w:World),(w.setCells g o vs).tape=w.tape:=by
  intro vs
  induction vs with
  | nil=>intro o w; rfl
  | cons v r ih=>intro o w; show ((w.setCell ⟨g,o,none⟩ v).setCells g (o + 1) r).tape=_; rw [ih]; rfl
 refine ⟨(World.os_setCells _ _ _ _).trans h.os,(ht _ _ _).trans h.tape,(World.output_setCells _ _ _ _).trans h.output,Wk h.size (Nat.le_of_eq (hs _ _ _).symm),λk hk hm=>?_⟩;have hne:k≠g:=λe=>by
  subst e;rcases hg with q | q
  ·exact hm q
  ·omega
 exact (World.heap_setCells_other _ _ _ _ (Zk hk h.size) hne).trans (h.block k hk hm)
theorem run_copy_many {P:Program} (w:World) (dT sT ty elem:TypeId) (kk b o dLen dCap:Nat) (a:Addr) (sLen sCap:Nat) (cs:List Value)
  (hu:P.underlying dT=some (.slice elem)) (hs:(P.info? elem).map (·.size)=some kk) (n:Nat) (hm:Nat.min sLen dLen=n) (hn:cs.length=n * kk)
  (hsrc:∀ j v,cs[j]?=some v->w.cell? (a.add j)=some v) (hc:∀ j,j < cs.length->(w.cell? ⟨b,o + j,none⟩).isSome=true) (hf:∀ j,j < cs.length->w.frozen? ⟨b,o + j,none⟩=false) (h1:∀ v∈cs,v.oneCell'=true) :
  (Builtin.copy_ #[dT,sT] ty #[.slice (some ⟨b,o,none⟩) dLen dCap,.slice (some a) sLen sCap]).run P w=.ok (goInt n) (w.setCells b o cs):=by
 have hl:=run_loadCells_list (P:=P) w a cs hsrc;have hst:=run_storeCells_cells (P:=P) b o cs 0 w (by simpa using hc) (by simpa using hf) h1
 cases hq:P.info? elem with
 | none=>simp [hq] at hs
 | some i =>
  have hi:i.size=kk:=by simpa [hq] using hs
  simp [Builtin.copy_,run_underlying hu,Builtin.lenOf,Builtin.firstCells,sizeOf,typeInfo,hq,hi,hm,<- hn,hl,hst]
theorem ins_flat {k n i:Nat} {l:List (List Value)} {r xs:List Value} (hk:Len k l) (hr:r.length=k) (hn:l.length=n) (hi:i<=n) (hx:xs.length=(n + 1) * k) (ht:xs.take (i * k)=(l.take i).flatten) :
  eY (eY xs ((i + 1) * k) (l.drop i).flatten) (i * k) r=(l.take i++r :: l.drop i).flatten:=by
 have hd:(l.drop i).flatten.length=(n - i) * k:=by rw [lQ (k:=k) _ (λr hr=>hk r (Rq hr)),Kv,hn]
 have e1:(i + 1) * k + (n - i) * k=(n + 1) * k:=by rw [<- Sv]; congr 1; omega
 have e2:(i + 1) * k=i * k + k:=Wq i k;have e3:xs.drop ((n + 1) * k)=[]:=Fv (by omega);have e4:(i + 1) * k<=(n + 1) * k:=Tv _ (by omega);have e5:(xs.take ((i + 1) * k)).drop ((i + 1) * k)=[]:=Fv (by rw [Uj]; omega);rw [Ow,Vq];unfold eY;rw [hd,e1,e3,Lv,hr,<- e2,List.take_append_of_le_length (by rw [Uj]; omega),List.take_take,Yw (by omega),ht,Yk]
 congr 1
 congr 1
 rw [List.drop_append_of_le_length (by rw [Uj]; omega),e5,Zq]
theorem ins_flat' {k n i:Nat} {l:List (List Value)} {r xs:List Value} (hk:Len k l) (hr:r.length=k) (hn:l.length=n) (hi:i<=n) (hx:xs.length=(n + 1) * k) (ht:xs.take (i * k)=(l.take i).flatten) :
  eY (eY xs (i * k) r) ((i + 1) * k) (l.drop i).flatten=(l.take i++r :: l.drop i).flatten:=by
 have hd:(l.drop i).flatten.length=(n - i) * k:=by rw [lQ (k:=k) _ (λr hr=>hk r (Rq hr)),Kv,hn]
 have e1:(i + 1) * k + (n - i) * k=(n + 1) * k:=by rw [<- Sv]; congr 1; omega
 have e2:(i + 1) * k=i * k + k:=Wq i k;have e4:(i + 1) * k<=(n + 1) * k:=Tv _ (by omega);have hl:(xs.take (i * k)++r).length=(i + 1) * k:=by rw [Bk,Uj,hr]; omega
 rw [Ow,Vq];unfold eY;rw [hd,e1,List.take_append_of_le_length (by omega),Nv (by omega),ht];have e3:((l.take i).flatten++r++xs.drop (i * k + r.length)).drop ((n + 1) * k)=[]:=Fv (by
  rw [<- ht,Bk,hl,Kv,hr]; omega)
 rw [e3,Lv,Yk]
theorem insert_room (g n c i vb:Nat) (l:List (List Value)) (r:List Value) (w:World) (h:w.ownsRow 0 66 8 (.slice (some ⟨g,0,none⟩) n c) n l.flatten) (hk:Len 8 l) (hr:r.length=8) (h1:One l) (h1r:∀ u∈r,u.oneCell'=true) (hn:l.length=n) (hi:i < n) (hsm:n<=1000) (hb:Box w vb r) (hne:vb≠g) (hroom:n + 1<=c) :
  Calls Tryz.prog 107 #[.slice (some ⟨g,0,none⟩) n c,.int .i64 i,.slice (some ⟨vb,0,none⟩) 1 1] w (λe w'=>∃ v',e=.returned v'/\w'.ownsRow 0 66 8 v' (n + 1) (l.take i++r :: l.drop i).flatten/\Low [g] w w'/\v'.ownBlock=some g):=by
 obtain ⟨i0,hi0,hz0,hzs,hzb⟩:=info_parts info_ltr;have hsz:(Tryz.prog.info? 66).map (·.size)=some 8:=by rw [hi0]; simp [hzs]
 -- the row with one more
 obtain ⟨xs,hx,hxl,hxt,hcm⟩:∃ xs,w.ownsRow 0 66 8 (.slice (some ⟨g,0,none⟩) (n + 1) c) (n + 1) xs/\xs.length=(n + 1) * 8/\xs.take (n * 8)=l.flatten/\c<=maxLen:=by
  rcases h.2 with ⟨q,-⟩ | ⟨g',cap,cur,e,h0,hg,hnc,hcm,hcs,ht⟩
  ·cases q
  ·simp only [Jk,Wj,Addr.mk.injEq,Dk,true_and] at e;obtain ⟨rfl,rfl⟩:=e;have hsz:cur.toList.length=c * 8:=by rw [Array.length_toList,hcs]
   refine ⟨cur.toList.take ((n + 1) * 8),⟨by rw [Uj,hsz]; omega,.inr ⟨g,c,cur,rfl,h0,hg,hroom,hcm,hcs,rfl⟩⟩,by rw [Uj,hsz]; omega,?_,hcm⟩;rw [List.take_take,Yw (by omega),ht]
 have hfl:l.flatten.length=n * 8:=by rw [lQ l hk,hn]
 have hcs:∀ j v,l.flatten[j]?=some v->w.cell? ⟨g,j,none⟩=some v:=λj v hj=>by rw [h.cellAt j (by have:=(Oj.1 hj).1; omega)]; exact hj
 have hsp:∀ j,j < (n + 1) * 8->(w.cell? ⟨g,j,none⟩).isSome=true:=λj hj=>by rw [hx.cellAt j hj,Gj (by omega)]; rfl
 have hfz:∀ j,w.frozen? ⟨g,j,none⟩=false:=λj=>hx.frozenAt j;have hdr:(l.drop i).flatten=l.flatten.drop (i * 8):=by
  have e0:(l.take i).flatten.length=i * 8:=by rw [lQ (k:=8) _ (λr hr=>hk r (Rv hr)),Uj,Yw (by omega)]
  have e1:l.flatten=(l.take i).flatten++(l.drop i).flatten:=by rw [<- Ow,Mv]
  have e2:(l.take i).flatten.drop (i * 8)=[]:=Fv (by omega);rw [e1,List.drop_append_of_le_length (by omega),e2,Zq]
 have hdl:(l.drop i).flatten.length=(n - i) * 8:=by rw [lQ (k:=8) _ (λr hr=>hk r (Rq hr)),Kv,hn]
 have hd1:∀ v∈(l.drop i).flatten,v.oneCell'=true:=λv hv=>by
  obtain ⟨r,hr,hur⟩:=List.mem_flatten.1 hv;exact h1 r (Rq hr) v hur
 obtain ⟨⟨t2,k2⟩,hsv⟩:∃ p,w.shape? vb=some p:=by
  have:=hb.cells 0 _ (Gj (by omega))
  unfold World.cell? at this;unfold World.shape?
  split at this
  ·rename_i e; rw [e]; exact ⟨_,rfl⟩
  ·cases this
 obtain ⟨⟨t1,k1⟩,hsg,hk1⟩:∃ p,w.shape? g=some p/\p.2≠0:=by
  rcases h.2 with ⟨q,-⟩ | ⟨g',cap,cur,e,h0,hg,hnc,hcm,hcs,ht⟩
  ·cases q
  ·simp only [Jk,Wj,Addr.mk.injEq,Dk,true_and] at e;obtain ⟨rfl,rfl⟩:=e;exact ⟨_,by unfold World.shape?; rw [hg],by simp only; omega⟩
 have hov:∀ lb cb,(callFunc 134 #[.slice (some ⟨vb,0,none⟩) 1 1,.slice (some ⟨g,(i + 1) * 8,none⟩) lb cb]).run Tryz.prog w=.ok (.value (.bool false)) w:=λlb cb=>by
  rw [run_callFunc_extern Tryz.func134 (by kernel_rfl) (by kernel_rfl) (by kernel_rfl) (e:=Extern.SlicesOverlaps.overlaps #[36,36] #[4]) (by kernel_rfl),
   Lib.run_overlaps_apart w 36 4 66 Tryz.underlying36 8 (by intro w; simp [sizeOf,typeInfo,hi0,hzs]) ⟨vb,0,none⟩ ⟨g,(i + 1) * 8,none⟩ 1 1 lb cb hne t2 t1 k2 k1 hsv hsg hk1 (hb.free 0) (hb.free k2)]
  rfl
 have hcp1:∀ ty dc sc,(Builtin.copy_ #[36,36] ty #[.slice (some ⟨g,(i + 1) * 8,none⟩) (n - i) dc,.slice (some ⟨g,i * 8,none⟩) (n + 1 - i) sc]).run Tryz.prog w.drew=.ok (goInt ((n - i:Nat):Int)) (w.drew.setCells g ((i + 1) * 8) (l.drop i).flatten):=λty dc sc =>
  run_copy_many w.drew _ _ ty 66 8 g ((i + 1) * 8) (n - i) dc ⟨g,i * 8,none⟩ (n + 1 - i) sc (l.drop i).flatten Tryz.underlying36 hsz (n - i) (by simp only [Nat.min_def]; split <;> omega) hdl
   (λj v hj=>by rw [Addr.add_lit]; rw [hdr,Yv] at hj; exact hcs _ v hj)
   (λj hj=>hsp _ (by omega)) (λj hj=>hfz _) hd1
 obtain ⟨W1,hW1⟩:∃ W1,W1=w.drew.setCells g ((i + 1) * 8) (l.drop i).flatten:=⟨_,rfl⟩;have ho1:W1.ownsRow 0 66 8 (.slice (some ⟨g,0,none⟩) (n + 1) c) (n + 1) (eY xs ((i + 1) * 8) (l.drop i).flatten):=by
  rw [hW1];exact rX _ _ w.drew xs hx (by omega)
 have ho2:=rX r (i * 8) _ _ ho1 (by omega);rw [ins_flat (k:=8) hk hr hn (by omega) hxl (by
  have e0:(l.take i).flatten.length=i * 8:=by rw [lQ (k:=8) _ (λr hr=>hk r (Rv hr)),Uj,Yw (by omega)]
  have e1:l.flatten=(l.take i).flatten++(l.drop i).flatten:=by rw [<- Ow,Mv]
  have e2:xs.take (i * 8)=(xs.take (n * 8)).take (i * 8):=by rw [List.take_take,Yw (by omega)]
  rw [e2,hxt,e1,List.take_append_of_le_length (by omega),Nv (by omega)])] at ho2
 have hcp2:∀ ty dc,(Builtin.copy_ #[36,36] ty #[.slice (some ⟨g,i * 8,none⟩) (n + 1 - i) dc,.slice (some ⟨vb,0,none⟩) 1 1]).run Tryz.prog W1=.ok (goInt ((1:Nat):Int)) (W1.setCells g (i * 8) r):=λty dc =>
  run_copy_many W1 _ _ ty 66 8 g (i * 8) (n + 1 - i) dc ⟨vb,0,none⟩ 1 1 r Tryz.underlying36 hsz 1 (by simp only [Nat.min_def]; split <;> omega) (by omega)
   (λj v hj=>by
    rw [Addr.add_lit,hW1,World.cell?_setCells_out g _ _ _ _ (λh _=>absurd h hne),Cq];exact hb.cells j v hj)
   (λj hj=>by rw [ho1.cellAt _ (by omega),Gj (by rw [ho1.1]; omega)]; rfl) (λj hj=>ho1.frozenAt _) h1r
 have hlow:Low [g] w (W1.setCells g (i * 8) r):=by
  rw [hW1];exact Low.setCells (Low.setCells (w:=w) (w':=w.drew) ⟨rfl,rfl,rfl,Ij _,λ_ _ _=>rfl⟩ (.inl (Pj.2 rfl)) _ _) (.inl (Pj.2 rfl)) _ _
 rw [<- hW1] at hcp1;have F:=Fj (Aj ho2 hlow);have HV:=Fj hov;have H1:=Fj hcp1;have H2:=Fj hcp2;have mixed:Tryz.prog.follows .mixedOrders=true:=by kernel_rfl
 have hz1:((1:Int) == 0)=false:=rfl;have hz2:((i:Int) == (n:Int))=false:=Lj.2 (by omega);have hw1:IntKind.i64.wrap ((i:Int) + 1)=(i:Int) + 1:=by rw [IntKind.wrap_i64]; omega
 have hw2:IntKind.i64.wrap ((n:Int) + 1)=(n:Int) + 1:=by rw [IntKind.wrap_i64]; omega
 have hb0:(0:Int)<=(i:Int):=by omega
 have hb1:(0:Int)<=(i:Int) + 1:=by omega
 have hb5:(i:Int)<=(n:Int):=by omega
 have hb6:(i:Int)<=(c:Int):=by omega
 have htn:((i:Int) + 1).toNat=i + 1:=by omega
 have hb2:¬ (c=i + 1):=by omega
 have hb3:(i:Int)<=(n:Int) + 1:=by omega
 have hb4:¬ (c=i):=by omega
 have hb7:(n:Int) + 1<=(c:Int):=by omega
 have hb8:¬ ((c:Int) < (n:Int) + 1):=by omega
 have htm:((n:Int) + 1).toNat=n + 1:=by omega
 clear hov hcp1 hcp2 hlow ho1 ho2 hsv hsg hd1 hdl hdr hfz hsp hcs hfl hx hxl hxt hb h hW1
 go_enter Tryz.func107,Tryz.ntmps107
 go_wp2_with (simp only [HV.out])
 go_region_law (refine step_copy_runI rfl _ _ 36 36 rfl (.slice (some ⟨g,(i + 1) * 8,none⟩) (n - i) (c - (i + 1))) (.slice (some ⟨g,i * 8,none⟩) (n + 1 - i) (c - i)) (by simp [Act.eval,Act.put]) (by simp [Act.eval,Act.put]) (H1.out 3 (c - (i + 1)) (c - i)) ?_)
 go_wp2_with (simp only [H2.out])
 go_ret
 exact ⟨_,rfl,F.out.1,F.out.2,rfl⟩
theorem insert_grow (g n i vb:Nat) (l:List (List Value)) (r:List Value) (w:World) (h:w.ownsRow 0 66 8 (.slice (some ⟨g,0,none⟩) n n) n l.flatten) (hk:Len 8 l) (hr:r.length=8) (h1:One l) (h1r:∀ u∈r,u.oneCell'=true) (hn:l.length=n) (hi:i < n) (hsm:n<=1000) (hb:Box w vb r) (hne:vb≠g) :
  Calls Tryz.prog 107 #[.slice (some ⟨g,0,none⟩) n n,.int .i64 i,.slice (some ⟨vb,0,none⟩) 1 1] w (λe w'=>∃ v',e=.returned v'/\w'.ownsRow 0 66 8 v' (n + 1) (l.take i++r :: l.drop i).flatten/\Low [g] w w'/\v'.ownBlock=some w.heap.size):=by
 obtain ⟨i0,hi0,hz0,hzs,hzb⟩:=info_parts info_ltr;have hsz:(Tryz.prog.info? 66).map (·.size)=some 8:=by rw [hi0]; simp [hzs]
 have hroom:n < n + 1:=by omega
 have hfl:l.flatten.length=n * 8:=by rw [lQ l hk,hn]
 have hcs:∀ j v,l.flatten[j]?=some v->w.cell? ⟨g,j,none⟩=some v:=λj v hj=>by rw [h.cellAt j (by have:=(Oj.1 hj).1; omega)]; exact hj
 have hgw:g < w.heap.size:=(h.lt g rfl).2;have hvw:=hb.lt;have e0:(l.take i).flatten.length=i * 8:=by rw [lQ (k:=8) _ (λr hr=>hk r (Rv hr)),Uj,Yw (by omega)]
 have e1:l.flatten=(l.take i).flatten++(l.drop i).flatten:=by rw [<- Ow,Mv]
 have hdr:(l.drop i).flatten=l.flatten.drop (i * 8):=by
  have e2:(l.take i).flatten.drop (i * 8)=[]:=Fv (by omega);rw [e1,List.drop_append_of_le_length (by omega),e2,Zq]
 have hdl:(l.drop i).flatten.length=(n - i) * 8:=by rw [lQ (k:=8) _ (λr hr=>hk r (Rq hr)),Kv,hn]
 have hd1:∀ v∈(l.drop i).flatten,v.oneCell'=true:=λv hv=>by
  obtain ⟨r,hr,hur⟩:=List.mem_flatten.1 hv;exact h1 r (Rq hr) v hur
 have hold:(Builtin.firstCells i0.size i (.slice (some ⟨g,0,none⟩) i n)).run Tryz.prog w.drew=.ok (l.take i).flatten.toArray w.drew:=by
  rw [hzs];exact run_firstCells_some (w:=w.drew) 8 i ⟨g,0,none⟩ i n (l.take i).flatten e0 (λj v hj=>by
   rw [Addr.add_lit,Cq];exact hcs j v (by rw [e1,Ox (Oj.1 hj).1]; exact hj))
 obtain ⟨Z,hZ⟩:∃ Z:Value,Z=.agg #[.string ⟨#[]⟩,.int .i64 0,.int .i64 0,.int .i64 0,.string ⟨#[]⟩,.int .i64 0,.int .i64 0,.string ⟨#[]⟩]:=⟨_,rfl⟩;have hzc:Z.cells.size=8:=by rw [hZ]; rfl
 rw [<- hZ] at hz0;have hik:i + (n + 1 - i)=n + 1:=by omega
 have hkk:(n:Int) + 1 - (i:Int)=((n + 1 - i:Nat):Int):=by omega
 have hrz:∀ ty,(Builtin.append_ #[36,3] ty #[.slice (some ⟨g,0,none⟩) i n,.int .i64 ((n:Int) + 1 - (i:Int))]).run Tryz.prog w =
   .ok (.slice (some ⟨w.heap.size,0,none⟩) (n + 1) (grownCap w (n + 1) n 66)) (w.drew.alloc (.cells ((l.take i).flatten.toArray++Builtin.zeroCells Z.cells (n + 1 - i)++Builtin.zeroCells Z.cells (grownCap w (n + 1) n 66 - (n + 1))) 66)):=λty=>by
  have h:=Lib.run_append_grow_zeros w 36 3 ty 66 i0 _ .i64 .i64 Tryz.underlying36 Tryz.underlying3 hi0 hz0 (some ⟨g,0,none⟩) i n _ hold (n + 1 - i) (by omega) (by omega) (by omega) (by omega) (by rw [hzb]; omega) (by rw [hzb,hik]; exact growslice_fits hroom (by omega));rw [hik] at h;rw [hkk];exact h
 have hGn:n + 1<=grownCap w (n + 1) n 66:=grownCap_ge w _ _ _;have hG63:grownCap w (n + 1) n 66<=maxLen:=grownCap_le_maxLen w (n + 1) n 66 (by unfold maxLen; omega);obtain ⟨G,hG⟩:∃ G,G=grownCap w (n + 1) n 66:=⟨_,rfl⟩;obtain ⟨ROW,hROW⟩:∃ ROW:Array Value,ROW=(l.take i).flatten.toArray++Builtin.zeroCells Z.cells (n + 1 - i)++Builtin.zeroCells Z.cells (G - (n + 1)):=⟨_,rfl⟩;rw [<- hG] at hrz hGn hG63;rw [<- hROW] at hrz;have hRl:ROW.size=G * 8:=by
  rw [hROW];simp only [Array.size_append,Mq,e0,Builtin.zeroCells,hzc];simp;omega
 have hRt:(ROW.toList.take ((n + 1) * 8)).take (i * 8)=(l.take i).flatten:=by
  rw [List.take_take,Yw (by omega),hROW];simp only [Array.toList_append,Yk];rw [List.take_append_of_le_length (by omega),Nv (by omega)]
 obtain ⟨W1,hW1⟩:∃ W1,W1=w.drew.alloc (.cells ROW 66):=⟨_,rfl⟩;have ho0:W1.ownsRow 0 66 8 (.slice (some ⟨w.heap.size,0,none⟩) (n + 1) G) (n + 1) (ROW.toList.take ((n + 1) * 8)):=by
  rw [hW1];exact ⟨by rw [Uj,Array.length_toList,hRl]; omega,.inr ⟨w.heap.size,G,ROW,rfl,Kj _,heap_alloc_new w.drew _,hGn,hG63,hRl,rfl⟩⟩
 have hxl:=ho0.1;have ho1:=rX r (i * 8) _ _ ho0 (by omega);obtain ⟨W2,hW2⟩:∃ W2,W2=W1.setCells w.heap.size (i * 8) r:=⟨_,rfl⟩;rw [<- hW2] at ho1;have ho2:=rX (l.drop i).flatten ((i + 1) * 8) W2.drew _ ho1 (by omega);rw [ins_flat' (k:=8) hk hr hn (by omega) hxl hRt] at ho2;have hlow:Low [g] w (W2.drew.setCells w.heap.size ((i + 1) * 8) (l.drop i).flatten):=by
  refine Low.setCells (w':=W2.drew) ?_ (.inr (Ij _)) _ _;have hl2:Low [g] w W2:=by
   rw [hW2];refine Low.setCells (w':=W1) ?_ (.inr (Ij _)) _ _;rw [hW1];have hb:=((Evo.refl w).drew.alloc (.cells ROW 66)).below;exact ⟨hb.os,hb.tape,hb.output,hb.size,λk hk _=>hb.block k hk⟩
  exact ⟨hl2.os,hl2.tape,hl2.output,hl2.size,hl2.block⟩
 have hOl:∀ b j v,b < w.heap.size->w.cell? ⟨b,j,none⟩=some v->W1.cell? ⟨b,j,none⟩=some v:=λb j v hb h=>by rw [hW1,World.cell?_alloc_past (w:=w.drew) _ b j hb]; exact h
 have hcp1:∀ ty dc,(Builtin.copy_ #[36,36] ty #[.slice (some ⟨w.heap.size,i * 8,none⟩) (n + 1 - i) dc,.slice (some ⟨vb,0,none⟩) 1 1]).run Tryz.prog W1=.ok (goInt ((1:Nat):Int)) W2:=λty dc=>by
  rw [hW2];exact run_copy_many W1 _ _ ty 66 8 w.heap.size (i * 8) (n + 1 - i) dc ⟨vb,0,none⟩ 1 1 r Tryz.underlying36 hsz 1 (by simp only [Nat.min_def]; split <;> omega) (by omega)
   (λj v hj=>by rw [Addr.add_lit,Cq]; exact hOl _ _ _ hvw (hb.cells j v hj))
   (λj hj=>by rw [ho0.cellAt _ (by omega),Gj (by omega)]; rfl) (λj hj=>ho0.frozenAt _) h1r
 have hcp2:∀ ty dc sc,(Builtin.copy_ #[36,36] ty #[.slice (some ⟨w.heap.size,(i + 1) * 8,none⟩) (n - i) dc,.slice (some ⟨g,i * 8,none⟩) (n - i) sc]).run Tryz.prog W2.drew=.ok (goInt ((n - i:Nat):Int)) (W2.drew.setCells w.heap.size ((i + 1) * 8) (l.drop i).flatten):=λty dc sc =>
  run_copy_many W2.drew _ _ ty 66 8 w.heap.size ((i + 1) * 8) (n - i) dc ⟨g,i * 8,none⟩ (n - i) sc (l.drop i).flatten Tryz.underlying36 hsz (n - i) (by simp only [Nat.min_def]; split <;> omega) hdl
   (λj v hj=>by
    rw [Addr.add_lit];rw [hdr,Yv] at hj;show W2.cell? _=_;rw [hW2,World.cell?_setCells_out _ _ _ _ _ (λh _=>absurd h (by simp only; omega))];exact hOl _ _ _ hgw (hcs _ v hj))
   (λj hj=>by show (W2.cell? _).isSome=true; rw [ho1.cellAt _ (by omega),Gj (by rw [ho1.1]; omega)]; rfl) (λj hj=>ho1.frozenAt _) hd1
 rw [<- hW1] at hrz;have F:=Fj (Aj ho2 hlow);have HR:=Fj hrz;have H1:=Fj hcp1;have H2:=Fj hcp2;have mixed:Tryz.prog.follows .mixedOrders=true:=by kernel_rfl
 have hz1:((1:Int) == 0)=false:=rfl;have hz2:((i:Int) == (n:Int))=false:=Lj.2 (by omega);have hw1:IntKind.i64.wrap ((i:Int) + 1)=(i:Int) + 1:=by rw [IntKind.wrap_i64]; omega
 have hw2:IntKind.i64.wrap ((n:Int) + 1)=(n:Int) + 1:=by rw [IntKind.wrap_i64]; omega
 have hb0:(0:Int)<=(i:Int):=by omega
 have hb1:(0:Int)<=(i:Int) + 1:=by omega
 have hb5:(i:Int)<=(n:Int):=by omega
 have htn:((i:Int) + 1).toNat=i + 1:=by omega
 have hb2:¬ (G=i + 1):=by omega
 have hb3:(i:Int)<=(n:Int) + 1:=by omega
 have hb4:¬ (G=i):=by omega
 have hb9:¬ (n=i):=by omega
 have hb7:(n:Int) < (n:Int) + 1:=by omega
 clear hrz hcp1 hcp2 hlow ho0 ho1 ho2 hOl hd1 hdl hdr hcs hfl hb h hW1 hW2 hROW hRt hRl hxl hold e0 e1 hG hkk hik hz0 hzc
 go_enter Tryz.func107,Tryz.ntmps107
 go_wp2_with (first | (at_builtin; refine Lib.wpList_append_run _ rfl _ _ _ _ rfl _ _ rfl rfl _ _ (HR.out _) ?_) | simp only [H1.out])
 go_region_law (refine step_copy_runI rfl _ _ 36 36 rfl (.slice (some ⟨w.heap.size,(i + 1) * 8,none⟩) (n - i) (G - (i + 1))) (.slice (some ⟨g,i * 8,none⟩) (n - i) (n - i)) (by simp [Act.eval,Act.put]) (by simp [Act.eval,Act.put]) (H2.out 3 (G - (i + 1)) (n - i)) ?_)
 go_wp2_with fail
 go_ret
 exact ⟨_,rfl,F.out.1,F.out.2,rfl⟩
theorem c_insert (v:Value) (l:List (List Value)) (i vb:Nat) (r:List Value) (h:Vw) (hk:Len 8 l) (hr:r.length=8) (h1:One l) (h1r:∀ u∈r,u.oneCell'=true) (hi:i < l.length) (hsm:l.length<=1000) :
  ConE Tryz.prog 107 #[v,.int .i64 i,.slice (some ⟨vb,0,none⟩) 1 1] h [.row v 66 8 l,.box vb r] (λr' Bo _=>∃ u,r'=.slice (sA u) (sN u) (sC u)/\Bo=[.row (.slice (sA u) (sN u) (sC u)) 66 8 (l.take i++r :: l.drop i),.box vb r]):=by
 intro hok hnd hbad hlt;have hrow:Ent.ok 0 h.w (.row v 66 8 l):=hok _ (by simp);have hbox:Box h.w vb r:=hok (.box vb r) (by simp);have hw:h.w.ownsRow 0 66 8 v l.length l.flatten:=hrow.1;obtain ⟨g,c,rfl,-,hgw⟩:=hw.form (by omega);have hne:vb≠g:=λe=>by
  subst e;simp [blk,Ent.blocks,Value.ownBlock] at hnd
 have hnc:l.length<=c:=by
  rcases hw.2 with ⟨q,-⟩ | ⟨g',cap,cur,e,h0,hg,hnc,-⟩
  ·cases q
  ·simp only [Jk] at e;obtain ⟨-,-,rfl⟩:=e;exact hnc
 have key:Calls Tryz.prog 107 #[.slice (some ⟨g,0,none⟩) l.length c,.int .i64 i,.slice (some ⟨vb,0,none⟩) 1 1] h.w (λe w'=>∃ v',e=.returned v'/\w'.ownsRow 0 66 8 v' (l.length + 1) (l.take i++r :: l.drop i).flatten/\Low [g] h.w w'/\(v'.ownBlock=some g\/v'.ownBlock=some h.w.heap.size)):=by
  rcases Uq l.length c with q | q
  ·exact (insert_room g l.length c i vb l r h.w hw hk hr h1 h1r rfl hi hsm hbox hne q).mono λe w' ⟨v',a1,a2,a3,a4⟩=>⟨v',a1,a2,a3,.inl a4⟩
  ·obtain rfl:c=l.length:=by omega
   exact (insert_grow g l.length i vb l r h.w hw hk hr h1 h1r rfl hi hsm hbox hne).mono λe w' ⟨v',a1,a2,a3,a4⟩=>⟨v',a1,a2,a3,.inr a4⟩
 refine key.mono ?_;rintro e w' ⟨v',rfl,ho,hl,hb⟩;obtain ⟨g',c',rfl,-,-⟩:=ho.form (by omega);have hll:(l.take i++r :: l.drop i).length=l.length + 1:=by simp; omega
 have hb:g'=g\/g'=h.w.heap.size:=by simpa [Value.ownBlock] using hb
 have hne':g'≠vb:=λe=>by
  rcases hb with q | q
  ·exact hne (e.symm.trans q)
  ·have:=hbox.lt; omega
 refine ⟨_,[.row (.slice (some ⟨g',0,none⟩) (l.length + 1) c') 66 8 (l.take i++r :: l.drop i),.box vb r],rfl,⟨hl.os,hl.tape,hl.output,hl.size,λk hk hm=>hl.block k hk λq=>hm ?_⟩,λe he=>?_,?_,λb hb'=>?_,.slice (some ⟨g',0,none⟩) (l.length + 1) c',rfl,rfl⟩
 ·rw [Pj.1 q]; simp [blk,Ent.blocks,Value.ownBlock]
 ·rcases Tj.1 he with rfl | he
  ·refine ⟨by rw [hll]; exact ho,λr' hr'=>?_⟩;rcases Rj.1 hr' with q | q
   ·exact hk r' (Rv q)
   ·rcases Tj.1 q with rfl | q
    ·exact hr
    ·exact hk r' (Rq q)
  ·rw [Pj.1 he];refine ok_block (e:=.box vb r) hbox hl.size λb hb'=>hl.block b ?_ ?_
   ·simp [Ent.blocks] at hb'; rw [hb']; exact hbox.lt
   ·simp [Ent.blocks] at hb'; rw [hb']; simpa using hne
 ·simp [blk,Ent.blocks,Value.ownBlock,hne']
 ·simp [blk,Ent.blocks,Value.ownBlock] at hb' ⊢;rcases hb' with rfl | rfl
  ·rcases hb with q | q
   ·exact .inl (.inl q)
   ·exact .inr (by omega)
  ·exact .inl (.inr rfl)
theorem info_ltk:(Tryz.prog.info? 66).map (λi=>(i.zero,i.size,i.bytes))=some (some (.agg #[.string ⟨#[]⟩,.int .i64 0,.int .i64 0,.int .i64 0,.string ⟨#[]⟩,.int .i64 0,.int .i64 0,.string ⟨#[]⟩]),8,88):=by kernel_rfl
theorem grow_ltk (n:Nat) (w:World) (hl:n * 88<=140737488355328):Calls Tryz.prog 163 #[.slice none 0 0,.int .i64 n] w (oJ 66 8 [] w):=by
 have hn63:n<=140737488355328:=by omega
 obtain ⟨i0,hi0,hz0,hz1,hz2⟩:=info_parts info_ltk;have h1:¬ ((n:Int) < 0):=by omega
 rcases Nat.eq_zero_or_pos n with rfl | hpos
 ·go_enter Tryz.func163,Tryz.ntmps163
  go_wp2_with fail
  go_ret
  exact ⟨_,rfl,⟨by simp,.inl ⟨rfl,rfl⟩⟩,Evo.refl _⟩
 ·have h4:(0:Int) < (n:Int):=by omega
  have hrz:∀ ty,(Builtin.append_ #[36,3] ty #[.slice none 0 0,.int .i64 (n:Int)]).run Tryz.prog w =
    .ok (.slice (some ⟨w.heap.size,0,none⟩) n (grownCap w n 0 66)) (w.drew.alloc (.cells ((#[]:Array Value)++Builtin.zeroCells (.agg #[.string ⟨#[]⟩,.int .i64 0,.int .i64 0,.int .i64 0,.string ⟨#[]⟩,.int .i64 0,.int .i64 0,.string ⟨#[]⟩]:Value).cells n++Builtin.zeroCells (.agg #[.string ⟨#[]⟩,.int .i64 0,.int .i64 0,.int .i64 0,.string ⟨#[]⟩,.int .i64 0,.int .i64 0,.string ⟨#[]⟩]:Value).cells (grownCap w n 0 66 - n)) 66)):=λty=>by
   have h:=Lib.run_append_grow_zeros w 36 3 ty 66 i0 (.agg #[.string ⟨#[]⟩,.int .i64 0,.int .i64 0,.int .i64 0,.string ⟨#[]⟩,.int .i64 0,.int .i64 0,.string ⟨#[]⟩]) .i64 .i64 Tryz.underlying36 Tryz.underlying3 hi0 hz0 none 0 0 [] (run_firstCells_none w.drew i0.size 0 0 0) n (by omega) (by rw [hz1]; omega) (by omega) (by omega) (by rw [hz2]; omega) (by rw [hz2]; exact growslice_fits (by omega) (by simpa using hl))
   simpa using h
  have hGn:n<=grownCap w n 0 66:=grownCap_ge w _ _ _;have hG63:=grownCap_le_maxLen w n 0 66 (by unfold maxLen; omega);obtain ⟨G,hG⟩:∃ G,G=grownCap w n 0 66:=⟨_,rfl⟩;rw [<- hG] at hrz hGn hG63;clear hG;have hsz:((#[]:Array Value)++Builtin.zeroCells (.agg #[.string ⟨#[]⟩,.int .i64 0,.int .i64 0,.int .i64 0,.string ⟨#[]⟩,.int .i64 0,.int .i64 0,.string ⟨#[]⟩]:Value).cells n++Builtin.zeroCells (.agg #[.string ⟨#[]⟩,.int .i64 0,.int .i64 0,.int .i64 0,.string ⟨#[]⟩,.int .i64 0,.int .i64 0,.string ⟨#[]⟩]:Value).cells (G - n)).size=G * 8:=by
   simp [Builtin.zeroCells,Value.cells]; omega
  have hown:Own (w.drew.alloc (.cells ((#[]:Array Value)++Builtin.zeroCells (.agg #[.string ⟨#[]⟩,.int .i64 0,.int .i64 0,.int .i64 0,.string ⟨#[]⟩,.int .i64 0,.int .i64 0,.string ⟨#[]⟩]:Value).cells n++Builtin.zeroCells (.agg #[.string ⟨#[]⟩,.int .i64 0,.int .i64 0,.int .i64 0,.string ⟨#[]⟩,.int .i64 0,.int .i64 0,.string ⟨#[]⟩]:Value).cells (G - n)) 66)) w.heap.size 66 8 (.slice (some ⟨w.heap.size,0,none⟩) 0 G) 0 [] :=
   ⟨Lx w.drew _ G (by exact Ij _) hG63 hsz⟩
  have hE:Evo w (w.drew.alloc (.cells ((#[]:Array Value)++Builtin.zeroCells (.agg #[.string ⟨#[]⟩,.int .i64 0,.int .i64 0,.int .i64 0,.string ⟨#[]⟩,.int .i64 0,.int .i64 0,.string ⟨#[]⟩]:Value).cells n++Builtin.zeroCells (.agg #[.string ⟨#[]⟩,.int .i64 0,.int .i64 0,.int .i64 0,.string ⟨#[]⟩,.int .i64 0,.int .i64 0,.string ⟨#[]⟩]:Value).cells (G - n)) 66)):=(Evo.refl w).drew.alloc _;obtain ⟨W,hW⟩:∃ W,W=w.drew.alloc (.cells ((#[]:Array Value)++Builtin.zeroCells (.agg #[.string ⟨#[]⟩,.int .i64 0,.int .i64 0,.int .i64 0,.string ⟨#[]⟩,.int .i64 0,.int .i64 0,.string ⟨#[]⟩]:Value).cells n++Builtin.zeroCells (.agg #[.string ⟨#[]⟩,.int .i64 0,.int .i64 0,.int .i64 0,.string ⟨#[]⟩,.int .i64 0,.int .i64 0,.string ⟨#[]⟩]:Value).cells (G - n)) 66):=⟨_,rfl⟩;rw [<- hW] at hrz hown hE;have HO:=Fj hown;unfold maxLen at hG63;clear hW hsz hown hpos
  go_enter Tryz.func163,Tryz.ntmps163
  go_wp2_with (at_builtin; refine Lib.wpList_append_run _ rfl _ _ _ _ rfl _ _ rfl rfl _ _ (hrz _) ?_)
  all_goals (go_ret; exact ⟨_,rfl,HO.out,hE⟩)
theorem concat_ltk (v va vb:Value) (la lb:List (List Value)) (w:World) (h:Sl w 1 v [[va],[vb]]) (ha:Sl w 8 va la) (hb:Sl w 8 vb lb) (ka:Len 8 la) (kb:Len 8 lb) (oa:One la) (ob:One lb) (hl:(la.length + lb.length) * 88<=140737488355328) :
  Calls Tryz.prog 133 #[v] w (oJ 66 8 (la++lb) w):=by
 obtain ⟨A,cap,rfl,hcap,hmax,-⟩:=h.form;obtain ⟨b,off,rfl,hbl,hc0⟩:=h.row (i:=0) (r:=[va]) rfl;obtain ⟨b',off',e',-,hc1⟩:=h.row (i:=1) (r:=[vb]) rfl;simp only [Wj,Addr.mk.injEq] at e';obtain ⟨rfl,rfl,-⟩:=e';have c0:∀ W,Evo w W->W.cell? ⟨b,off,none⟩=some va:=by simpa using hc0 0 _ rfl
 have c1:∀ W,Evo w W->W.cell? ⟨b,off + 1,none⟩=some vb:=by simpa using hc1 0 _ rfl
 obtain ⟨A1,cap1,rfl,hcap1,hmax1,-⟩:=ha.form;obtain ⟨A2,cap2,rfl,hcap2,hmax2,-⟩:=hb.form;have HA:=Fj ha;have HB:=Fj hb;have KA:=Fj ka;have KB:=Fj kb;have OA:=Fj oa;have OB:=Fj ob;have hg:=λW=>grow_ltk (la.length + lb.length) W (by omega);simp only [Int.natCast_add] at hg;have HG:=Fj hg;clear hg;have l0:la.length<=140737488355328:=by omega
 have l1:lb.length<=140737488355328:=by omega
 clear h ha hb ka kb oa ob hc0 hc1
 go_enter Tryz.func133,Tryz.ntmps133
 go_wp2_with fail
 go_loopw [3,11] (λs n wr=>wr=w/\((s=.int .i64 0/\n=.int .i64 0)\/(s=.int .i64 la.length/\n=.int .i64 1)\/(s=.int .i64 ((la.length:Int) + (lb.length:Int))/\n=.int .i64 2))) (λ_ n _=>2 - (intOf n).toNat)
 case atStart=>exact ⟨rfl,.inl ⟨rfl,rfl⟩⟩
 case round =>
  obtain ⟨rfl,hrel⟩:=hrel;have e0:=Evo.refl wr;rcases hrel with ⟨rfl,rfl⟩ | ⟨rfl,rfl⟩ | ⟨rfl,rfl⟩
  ·go_wp2_with fail
   go_roundw
   case rel=>exact ⟨trivial,.inr (.inl ⟨rfl,rfl⟩)⟩
   case measure=>simp [intOf]
  ·go_wp2_with fail
   go_roundw
   case rel=>exact ⟨trivial,.inr (.inr ⟨rfl,rfl⟩)⟩
   case measure=>simp [intOf]
  ·go_wp2_with fail
   obtain ⟨wo,rfl⟩:∃ wo:World,wo=wr:=⟨_,rfl⟩
   with_reducible refine (HG.out _).mono ?_
   rintro e u1 ⟨v0,rfl,h0,hE⟩;have HO:=Fj h0;clear h0
   go_wp2_with fail
   go_loopw [6,27] (λv n wr=>∃ (k:Nat) (m:List (List Value)),n=.int .i64 k/\Own wr wo.heap.size 66 8 v m.length m.flatten/\Evo wo wr/\((k=0/\m=[])\/(k=1/\m=la)\/(k=2/\m=la++lb))) (λ_ n _=>2 - (intOf n).toNat)
   case atStart=>exact ⟨0,[],rfl,HO.out,hE,.inl ⟨rfl,rfl⟩⟩
   case round =>
    obtain ⟨k,m,rfl,hown,e1,hm⟩:=hrel;have HN:=Fj hown;clear hown hE HO;rcases hm with ⟨rfl,rfl⟩ | ⟨rfl,rfl⟩ | ⟨rfl,rfl⟩
    ·go_wp2_with (at_builtin; refine dA rfl (.tmp 31) (.tmp 32) 36 rfl 66 _ 8 88 Tryz.underlying36 info_ltk rfl (by decide) wo e1 [] la _ _ rfl rfl HN.out (HA.out.at e1) KA.out OA.out ?c1 ?c2 ?_)
     case c1=>simp; omega
     case c2=>simp; omega
     intro v' w1 hown e2 hg;have HM:=Fj hown;clear hown hg e1
     go_wp2_with fail
     go_roundw
     case rel=>exact ⟨1,la,rfl,by simpa using HM.out,e2,.inr (.inl ⟨rfl,rfl⟩)⟩
     case measure=>simp [intOf]
    ·go_wp2_with (at_builtin; refine dA rfl (.tmp 31) (.tmp 32) 36 rfl 66 _ 8 88 Tryz.underlying36 info_ltk rfl (by decide) wo e1 m lb _ _ rfl rfl HN.out (HB.out.at e1) KB.out OB.out ?c1 ?c2 ?_)
     case c1=>omega
     case c2=>omega
     intro v' w1 hown e2 hg;have HM:=Fj hown;clear hown hg e1
     go_wp2_with fail
     go_roundw
     case rel=>exact ⟨2,m++lb,rfl,by simpa using HM.out,e2,.inr (.inr ⟨rfl,rfl⟩)⟩
     case measure=>simp [intOf]
    ·go_wp2_with fail
     go_ret
     exact ⟨_,rfl,by simpa using HN.out,e1⟩
theorem lts_len (l:List Lt):Len 8 (lW l):=λr hr=>by
 obtain ⟨x,-,rfl⟩:=Qj.1 hr
 rfl
theorem lts_one (l:List Lt):One (lW l):=λr hr=>by
 obtain ⟨x,-,rfl⟩:=Qj.1 hr;simp [Lt.cells,Value.oneCell']
section
variable {h:Vw} {v va vb vc:Value} {la lb lc:List Lt}
theorem c_concatT (hr:RS h 1 v [[va],[vb]]) (ha:RS h 8 va (lW la)) (hb:RS h 8 vb (lW lb)) (hl:la.length + lb.length<=1000000):C0 Tryz.prog 133 #[v] h (λr h'=>∃ u,r=(.slice (sA u) (sN u) (sC u))/\RS h' 8 ((.slice (sA u) (sN u) (sC u))) (lW (la++lb))):=by
 have:=concat_ltk v va vb (lW la) (lW lb) h.w (Sl.of_rs hr) (Sl.of_rs ha) (Sl.of_rs hb) (lts_len _) (lts_len _) (lts_one _) (lts_one _) (by simp; omega)
 rw [show lW la++lW lb=lW (la++lb) by simp] at this;exact C0.of_own (lts_len _) this
end
end Go.Proofs.YthplkompdehjlaaGreat
