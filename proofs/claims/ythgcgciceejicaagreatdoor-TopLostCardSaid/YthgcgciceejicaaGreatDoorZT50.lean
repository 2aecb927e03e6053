/-
  How a law's argument of type []Raw is opened: a slice of rows.
-/
import Derived.Test.YthgcgciceejicaaGreatDoorZT49
import Derived.Test.YthgcgciceejicaaGreatDoorZT42
import Derived.Shelf.Spec.SlicesInsert
set_option maxHeartbeats 8000000
set_option maxRecDepth 100000
namespace Go.Proofs.YthgcgciceejicaaGreatDoor
open Go.ChangeShapes Go.WideShapes Go.ChangeAt Go.RowKit Go.Deep
@[reducible] def RawD.cells (r:RawD):List Value:=[.int .i64 r.k,.int .i64 r.a,.int .i64 r.b,.string r.t]
def RawsOf (w:World) (v:Value) (l:List RawD):Prop:=Sl w 4 v (l.map RawD.cells)/\l.length * 40<=reachBytes/\∀ r∈l,r.ok
section
variable {H:Type} {enc:TypeId × Value->H} {w:World} {base:Nat} {sp:Nat->Bool} {held:Bool}
theorem open_rows {r:Reach} {b0:Nat} {v:Value} {d:DataW H} {p:List MemPlace} (hv:Value.okWide Tryz.prog w r b0 22 v) (h:DataW.Trod enc Tryz.prog w 0 (λ_=>true) held 22 v d p)
  (hz:∀ es ss,d=.slice es ss->(es.length + ss.length) * Tryz.prog.bytesOf 24<=reachBytes):∃ l:List RawD,RawsOf w v l:=by
 obtain ⟨a,len,cap,rfl⟩:=okWide_slice Tryz.underlying22 hv;obtain ⟨fuel,hf⟩:=h;rcases open_slice_fields Tryz.underlying22 Tryz.underlying24 (by kernel_rfl) cellsRaw hf with ⟨hcs,_⟩ | ⟨x,l,c,m,D,Pl,hcs,_,hl,hm,hmm,hx,hi⟩
 ·simp [Value.cells] at hcs;obtain ⟨rfl,rfl,rfl⟩:=hcs;exact ⟨[],.inl ⟨none,0,rfl,λ_=>rfl,Mj _,rfl⟩,by simp,by simp⟩
 ·simp [Value.cells] at hcs;obtain ⟨rfl,rfl,rfl⟩:=hcs;simp only [Kq] at hx;have hw:=hz _ _ hx.1;rw [bytesRaw] at hw;simp at hmm;subst hmm;simp only [Ij,List.length_range] at hw;have hcap:m * 40<=reachBytes:=by rw [show len + (m - len)=m by omega] at hw; exact hw
  have one:∀ i,i < len->∃ q:RawD,q.ok/\w.cell? (x.add (i * 4))=some (.int .i64 q.k)/\w.cell? (x.add (i * 4 + 1))=some (.int .i64 q.a)/\w.cell? (x.add (i * 4 + 2))=some (.int .i64 q.b)/\w.cell? (x.add (i * 4 + 3))=some (.string q.t):=by
   intro i hlt;obtain ⟨ys,n,-,-,-,hf⟩:=hi i (by omega);obtain ⟨v0,y0,c0,-,t0⟩:=hf 0 _ rfl;obtain ⟨v1,y1,c1,-,t1⟩:=hf 1 _ rfl;obtain ⟨v2,y2,c2,-,t2⟩:=hf 2 _ rfl;obtain ⟨v3,y3,c3,-,t3⟩:=hf 3 _ rfl;obtain ⟨n0,e0,-,w0⟩:=DataW.trod_int Tryz.underlying3 t0;obtain ⟨n1,e1,-,w1⟩:=DataW.trod_int Tryz.underlying3 t1;obtain ⟨n2,e2,-,w2⟩:=DataW.trod_int Tryz.underlying3 t2;obtain ⟨s,e3,-,w3⟩:=DataW.trod_string Tryz.underlying9 t3;simp only [Qk,Iq] at e0 e1 e2 e3;subst e0 e1 e2 e3;exact ⟨⟨n0,n1,n2,s⟩,⟨⟨int_lo w0,int_hi w0⟩,⟨int_lo w1,int_hi w1⟩,⟨int_lo w2,int_hi w2⟩,w3⟩,c0,c1,c2,c3⟩
  haveI:Inhabited RawD:=⟨⟨0,0,0,ByteArray.empty⟩⟩
  obtain ⟨f,hfn⟩:=choose_lt one;refine ⟨(List.range len).map f,?_,by simp; omega,?_⟩
  ·rcases Nat.eq_zero_or_pos len with h0 | hpos
   ·left; subst h0
    exact ⟨some x,m,rfl,(λk=>by cases k),hm,rfl⟩
   ·right
    have c0:=(hfn 0 hpos).2.1;obtain ⟨b,off,spot⟩:=x;have hb:b < w.heap.size:=Rx w ⟨b,off,spot⟩ (by simpa [Addr.add] using c0);have hs:spot=none:=by
     cases spot with
     | none=>rfl
     | some k =>
      exfalso
      simp only [Nat.zero_mul,Addr.add,if_true] at c0;unfold World.cell? at c0
      split at c0 <;> simp at c0
    subst hs;refine ⟨b,off,m,by simp,by simpa using hl,hm,hb,λi r hi j u hj=>?_⟩;rw [Oj] at hi;obtain ⟨q,hq,rfl⟩:=Zw.1 hi;have hlt:i < len:=by
     have:=(Nj.1 hq).1; simpa using this
    have e:f i=q:=by simpa [hlt] using hq
    subst e;obtain ⟨-,k0,k1,k2,k3⟩:=hfn i hlt;have ad:∀ n,(⟨b,off,none⟩:Addr).add n=⟨b,off + n,none⟩:=by intro n; unfold Addr.add; split <;> simp_all
    rw [ad] at k0 k1 k2 k3
    match j,hj with
    | 0,hj=>simp [RawD.cells] at hj; subst hj; exact k0
    | 1,hj=>simp [RawD.cells] at hj; subst hj; rw [Xv]; exact k1
    | 2,hj=>simp [RawD.cells] at hj; subst hj; rw [Xv]; exact k2
    | 3,hj=>simp [RawD.cells] at hj; subst hj; rw [Xv]; exact k3
  ·intro r hr;obtain ⟨i,hi',rfl⟩:=Rj.1 hr;exact (hfn i (by simpa using hi')).1
end
open Go.RowKit
theorem info_ltr:(Tryz.prog.info? 57).map (λi=>(i.zero,i.size,i.bytes))=some (some (.agg #[.string ⟨#[]⟩,.int .i64 0,.int .i64 0,.int .i64 0,.string ⟨#[]⟩,.int .i64 0,.int .i64 0,.string ⟨#[]⟩]),8,88):=by kernel_rfl
theorem clone_ltr (v:Value) (l:List (List Value)) (w:World) (h:Sl w 8 v l) (hk:Len 8 l) (h1:One l) (hl:l.length * 88<=140737488355328) :
  Calls Tryz.prog 183 #[v] w (oJ 57 8 l w):=by
 have q22:∀ (w:World) (a:Option Addr) (n c n' c':Nat),(binOp .eql 37 (.slice a n c) (.slice none n' c')).run Tryz.prog w=.ok (.bool a.isNone) w:=λw a n c n' c'=>Lib.run_eql_slice_nil w _ _ a n c n' c' Tryz.underlying37;obtain ⟨A,cap,rfl,c1,c2,hA⟩:=h.form
 cases A with
 | none =>
  obtain rfl:=hA rfl;have h0:l.length=0:=by omega
  obtain rfl:=Wq.1 h0
  go_enter Tryz.func183,Tryz.ntmps183
  go_wp2_with fail
  go_ret
  exact ⟨_,rfl,⟨by simp,.inl ⟨rfl,rfl⟩⟩,Evo.refl _⟩
 | some a =>
  have HR:=Fj h;have HK:=Fj hk;have H1:=Fj h1;clear h hk h1
  go_enter Tryz.func183,Tryz.ntmps183
  go_wp2_with (at_builtin; refine uZ rfl (.tmp 5) (.tmp 6) 37 rfl 57 _ 8 88 Tryz.underlying37 info_ltr rfl (by decide) w ((Evo.refl _).alloc _) [] l _ _ rfl rfl ⟨World.ownsRow_made w #[] 0 (Hj _) (Mj _) (by simp)⟩ (HR.out.at ((Evo.refl _).alloc _)) HK.out H1.out ?c1 ?c2 ?_)
  case c1=>simp; omega
  case c2=>simpa using hl
  intro v' w1 hown hbl hg;have HW:=Fj (⟨hown,hbl⟩:Own w1 w.heap.size 57 8 v' ([]++l).length ([]++l).flatten/\Evo w w1);clear hown hg hbl
  go_wp2_with fail
  go_ret
  exact ⟨_,rfl,HW.out.1,HW.out.2⟩
attribute [local go_sem] Evo.refl Evo.alloc Evo.drew Evo.drewN
@[reducible] def Ltr.val (x:Ltr):Value:=.agg #[.string x.f,.int .i64 x.id,.int .i64 x.kk,.int .i64 x.kn,.string x.ks,.int .i64 x.ak,.int .i64 x.an,.string x.as']
theorem net_at (v:Value) (l:List Ltr) (i:Nat) (x:Ltr) (w:World) (h:Sl w 8 v (lcs l)) (hl:l.length<=24) (hok:∀ x∈l,OkL x) (hi:l[i]?=some x) :
  Calls Tryz.prog 182 #[v,.int .i64 i] w (GivesE (.tuple #[x.val,.int .i64 0]) w):=by
 have hlt:=(Nj.1 hi).1;obtain ⟨A,cap,rfl,hcap,-⟩:=h.form;obtain ⟨b,off,rfl,hbl,hc⟩:=h.row (i:=i) (r:=x.cells) (by rw [Oj,hi]; rfl);have c0:∀ W,Evo w W->W.cell? ⟨b,off + i * 8,none⟩=some _:=hc 0 _ rfl;have c1:∀ W,Evo w W->W.cell? ⟨b,off + i * 8 + 1,none⟩=some _:=hc 1 _ rfl;have c2:∀ W,Evo w W->W.cell? ⟨b,off + i * 8 + 2,none⟩=some _:=hc 2 _ rfl;have c3:∀ W,Evo w W->W.cell? ⟨b,off + i * 8 + 3,none⟩=some _:=hc 3 _ rfl;have c4:∀ W,Evo w W->W.cell? ⟨b,off + i * 8 + 4,none⟩=some _:=hc 4 _ rfl;have c5:∀ W,Evo w W->W.cell? ⟨b,off + i * 8 + 5,none⟩=some _:=hc 5 _ rfl;have c6:∀ W,Evo w W->W.cell? ⟨b,off + i * 8 + 6,none⟩=some _:=hc 6 _ rfl;have c7:∀ W,Evo w W->W.cell? ⟨b,off + i * 8 + 7,none⟩=some _:=hc 7 _ rfl;have HC:=Fj (λW (hW:Evo w W)=>net_check _ l W (h.at hW) hl hok);rw [Ij] at *;have i0:(0:Int)<=(i:Int):=by omega
 have i1:(i:Int) < (l.length:Int):=by omega
 have ex:=(Evo.refl w).alloc (.cells #[.string ⟨#[]⟩,.int .i64 0,.int .i64 0,.int .i64 0,.string ⟨#[]⟩,.int .i64 0,.int .i64 0,.string ⟨#[]⟩] 57);have bx:=Box.new w #[.string ⟨#[]⟩,.int .i64 0,.int .i64 0,.int .i64 0,.string ⟨#[]⟩,.int .i64 0,.int .i64 0,.string ⟨#[]⟩] 57;have EX:=Fj ex;have BX:=Fj bx;clear h hok hi hc ex bx
 go_enter Tryz.func182,Tryz.ntmps182
 go_wp2_with fail
 with_reducible refine (HC.out _ EX.out).mono ?_
 rintro e u1 ⟨rfl,e1⟩;have b1:=BX.out.keep e1.below;have x0:=b1.cells 0 _ rfl;have x1:=b1.cells 1 _ rfl;have x2:=b1.cells 2 _ rfl;have x3:=b1.cells 3 _ rfl;have x4:=b1.cells 4 _ rfl;have x5:=b1.cells 5 _ rfl;have x6:=b1.cells 6 _ rfl;have x7:=b1.cells 7 _ rfl;have y0:=b1.free 0;have y1:=b1.free 1;have y2:=b1.free 2;have y3:=b1.free 3;have y4:=b1.free 4;have y5:=b1.free 5;have y6:=b1.free 6;have y7:=b1.free 7;have ew:=EX.out.trans e1;have EW:=Fj ew
 go_wp2_with fail
 refine bodyPost_ret (v:=.tuple #[x.val,.int .i64 0]) (by simp [results,Tryz.results182,go_sem,x0,x1,x2,x3,x4,x5,x6,x7]) rfl ?_;refine ⟨rfl,?_⟩
 repeat (first | with_reducible refine Evo.set ?_ (Evo.refl _) _ _ | exact EW.out)
theorem delete_ltr (v:Value) (l:List (List Value)) (i p:Nat) (w x:World) (hE:Evo x w) (h:Own w x.heap.size 57 8 v l.length l.flatten) (hk:Len 8 l) (h1:One l) (hl:l.length=p + 1) (hi:i<=p) (hp:p<=1000000) :
  Calls Tryz.prog 184 #[v,.int .i64 i,.int .i64 ((i:Int) + 1)] w (λe w'=>∃ v',e=.returned v'/\Sl w' 8 v' (l.eraseIdx i)/\Evo x w'):=by
 have hS:=Sl.of_own hk h;obtain ⟨h⟩:=h;rcases h.2 with ⟨rfl,h0⟩ | ⟨g,cap,cur,rfl,hbg,hg,hn,hm,hs,ht⟩
 ·omega
 rw [hl] at hn;have hgl:g < w.heap.size:=(Nk.1 hg).1
 -- the cells
 have hrow:∀ q r,l[q]?=some r->∀ j u,r[j]?=some u->w.cell? ⟨g,q * 8 + j,none⟩=some u:=by
  intro q r hq j u hj;obtain ⟨b,off,e,hb,hc⟩:=hS.row hq;simp only [Yj,Addr.mk.injEq] at e;obtain ⟨rfl,rfl,-⟩:=e
  have:=hc j u hj w (Evo.refl _)
  rwa [Gq] at this
 have hsome:∀ W:World,W.heap[g]?=w.heap[g]?->∀ o,o < cap * 8->(W.cell? ⟨g,o,none⟩).isSome=true:=by
  intro W hW o ho;simp only [World.cell?,hW,hg];simp [hs,ho]
 have hfree:∀ W:World,W.heap[g]?=w.heap[g]?->∀ o,W.frozen? ⟨g,o,none⟩=false:=by
  intro W hW o;simp only [World.frozen?,hW,hg];simp
 obtain ⟨A,hA⟩:∃ A,A=some (⟨g,0,none⟩:Addr):=⟨_,rfl⟩;have hS2:=hS;rw [<- hA] at hS2;rw [hl] at hS2;obtain ⟨A',eA,hd⟩:=hS2.drop' (i + 1) (by omega);have hdn:∃ b off,A'=some ⟨b,off,none⟩/\(∀ j u,(l.drop (i + 1)).flatten[j]?=some u->∀ W,Evo w W->W.cell? ((⟨b,off,none⟩:Addr).add j)=some u):=by
  rcases hd with ⟨A2,cap2,e,hA2,hm2,h0⟩ | ⟨b,off,cap',e,c1,c2,hb,hc⟩
  ·rw [h0,<- eA,hA]
   by_cases hci:cap=i + 1
   ·exact ⟨g,0,by rw [Cj hci],by simp⟩
   ·exact ⟨g,0 + (i + 1) * 8,by rw [Bj hci]; simp [addr_add],by simp⟩
  ·simp only [Tk] at e;refine ⟨b,off,e.1,λj u hj W hW=>?_⟩;obtain ⟨q,r,m,e1,e2,e3⟩:=flat_split (k:=8) _ (λr hr=>hk r (Ww hr)) j u hj
   have:=hW.cell hb (hc q r e1 m u e2)
   rw [addr_add,e3,<- Xv];exact this
 obtain ⟨b',off',rfl,hsrc⟩:=hdn;obtain ⟨i0,hi0,hz0,hz1,hz2⟩:=info_parts info_ltr;have hnl:(l.drop (i + 1)).flatten.length=(p - i) * 8:=by rw [flat_len (k:=8) _ (λr hr=>hk r (Ww hr)),List.length_drop,hl]; congr 1; omega
 have hone:∀ u∈(l.drop (i + 1)).flatten,u.oneCell'=true:=λu hu=>by
  obtain ⟨r,hr,hur⟩:=List.mem_flatten.1 hu;exact h1 r (Ww hr) u hur
 have hspare:∀ j,j < (l.drop (i + 1)).flatten.length->(w.drew.cell? ⟨g,0 + i * 8 + j,none⟩).isSome=true/\w.drew.frozen? ⟨g,0 + i * 8 + j,none⟩=false:=λj hj=>by
  rw [hnl] at hj;refine ⟨hsome w.drew rfl _ ?_,hfree w.drew rfl _⟩;omega
 have X:Hid (∀ W,W=w.drew.setCells g (0 + i * 8) (l.drop (i + 1)).flatten->∀ ty,(Builtin.clear_ #[37] ty #[.slice (some ⟨g,p * 8,none⟩) 1 (cap - p)]).run Tryz.prog W=.ok (.tuple #[]) (W.setCells g (p * 8) [.string ⟨#[]⟩,.int .i64 0,.int .i64 0,.int .i64 0,.string ⟨#[]⟩,.int .i64 0,.int .i64 0,.string ⟨#[]⟩])):=by
  intro W hW ty;have zv:∀ w,(zeroValue 57).run Tryz.prog w=.ok (.agg #[.string ⟨#[]⟩,.int .i64 0,.int .i64 0,.int .i64 0,.string ⟨#[]⟩,.int .i64 0,.int .i64 0,.string ⟨#[]⟩]) w:=Tryz.zeroValue57;refine run_clear_row _ _ ty _ [.string ⟨#[]⟩,.int .i64 0,.int .i64 0,.int .i64 0,.string ⟨#[]⟩,.int .i64 0,.int .i64 0,.string ⟨#[]⟩] Tryz.underlying37 zv (by kernel_rfl) (by simp [Value.oneCell']) _ _ _ (λj hj=>?_) (λj hj=>?_)
  ·rw [hW];exact World.isSome_setCells g _ _ _ _ (hsome w.drew rfl _ (by simp at hj; omega))
  ·rw [hW,World.frozen?_setCells];exact hfree w.drew rfl _
 have F:Hid (Sl ((w.drew.setCells g (0 + i * 8) (l.drop (i + 1)).flatten).setCells g (p * 8) [.string ⟨#[]⟩,.int .i64 0,.int .i64 0,.int .i64 0,.string ⟨#[]⟩,.int .i64 0,.int .i64 0,.string ⟨#[]⟩]) 8 (.slice (some ⟨g,0,none⟩) p cap) (l.eraseIdx i)/\Evo x ((w.drew.setCells g (0 + i * 8) (l.drop (i + 1)).flatten).setCells g (p * 8) [.string ⟨#[]⟩,.int .i64 0,.int .i64 0,.int .i64 0,.string ⟨#[]⟩,.int .i64 0,.int .i64 0,.string ⟨#[]⟩])):=by
  have hel:(l.eraseIdx i).length=p:=by rw [List.length_eraseIdx]; split <;> omega
  have hEv:Evo x ((w.drew.setCells g (0 + i * 8) (l.drop (i + 1)).flatten).setCells g (p * 8) [.string ⟨#[]⟩,.int .i64 0,.int .i64 0,.int .i64 0,.string ⟨#[]⟩,.int .i64 0,.int .i64 0,.string ⟨#[]⟩]):=(hE.drew.setCells hbg _ _).setCells hbg _ _;refine ⟨.inr ⟨g,0,cap,by rw [hel],by omega,hm,?_,?_⟩,hEv⟩
  ·have h2:Evo w ((w.drew.setCells g (0 + i * 8) (l.drop (i + 1)).flatten).setCells g (p * 8) [.string ⟨#[]⟩,.int .i64 0,.int .i64 0,.int .i64 0,.string ⟨#[]⟩,.int .i64 0,.int .i64 0,.string ⟨#[]⟩])\/True:=.inr trivial
   have:∀ (vs:List Value) (o:Nat) (w:World),(w.setCells g o vs).heap.size=w.heap.size:=by
    intro vs
    induction vs with
    | nil=>intro o w; rfl
    | cons v r ih=>intro o w; show ((w.setCell ⟨g,o,none⟩ v).setCells g (o + 1) r).heap.size=_; rw [ih]; simp [World.setCell]
   rw [this,this]; exact hgl
  ·rw [Gq];exact del_rows (w:=w.drew) hk hl hi hrow [.string ⟨#[]⟩,.int .i64 0,.int .i64 0,.int .i64 0,.string ⟨#[]⟩,.int .i64 0,.int .i64 0,.string ⟨#[]⟩] rfl
 obtain ⟨W1,hW1⟩:∃ W1,W1=w.drew.setCells g (0 + i * 8) (l.drop (i + 1)).flatten:=⟨_,rfl⟩;have hcl:=X.out W1 hW1;have HW:=Fj hW1;rw [<- hW1] at F;clear X hW1;have HSR:=Fj hsrc;have HNL:=Fj hnl;have H1:=Fj hone;have HSP:=Fj hspare;have HA:=Fj hA;clear hsrc hnl hone hspare hsome hfree hrow hS2 hS hd ht hg h hs;rw [<- hA];clear hA;have n0:(0:Int)<=(i:Int):=by omega
 have n1:(i:Int)<=(p:Int):=by omega
 have n2:(p:Int) + 1<=(cap:Int):=by omega
 have n3:((i:Int) == (i:Int) + 1)=false:=Lj.2 (by omega);have n6:(i:Int)<=(cap:Int):=by omega
 have n7:(i:Int) + 1<=(p:Int) + 1:=by omega
 have n8:(0:Int)<=(i:Int) + 1:=by omega
 have n4:¬ cap=p:=by omega
 have n5:p + 1 - p=1:=by omega
 rw [hl]
 go_enter Tryz.func184,Tryz.ntmps184
 go_wp2_with fail
 go_region_law (refine step_append_room rfl (.tmp 22) (.tmp 25) 37 rfl 57 i0 8 Tryz.underlying37 hi0 hz1 g 0 i cap (Dj (λA=>Value.slice A i cap) HA.out) ⟨b',off',none⟩ _ _ (l.drop (i + 1)).flatten rfl (by first | exact HNL.out | (rw [HNL.out]; congr 1; omega)) (λj u hj=>HSR.out j u hj _ ((Evo.refl _).drew)) H1.out (by omega) HSP.out ?_; rw [<- HW.out]; first | rw [show i + (p - i)=p from by omega] | rw [show i + (p + 1 - (i + 1))=p from by omega])
 go_wp2_with fail
 go_ret
 exact ⟨_,rfl,F.out⟩
attribute [local go_sem] Evo.refl Evo.alloc Evo.drew Evo.drewN
def LOwn (l:List Ltr) (w:World) (e:Ending) (w':World):Prop:=∃ v,e=.returned (.tuple #[v,.int .i64 0])/\Own w' w.heap.size 57 8 v (lcs l).length (lcs l).flatten/\Evo w w'
theorem eraseIdx_map {α β:Type} (f:α->β):∀ (l:List α) (i:Nat),(l.map f).eraseIdx i=(l.eraseIdx i).map f
 | [],i=>by simp
 | x :: l,0=>by simp
 | x :: l,i + 1=>by
  have:=eraseIdx_map f l i
  simp only [Ik,List.eraseIdx_cons_succ] at this ⊢;rw [this]
theorem net_lose (v:Value) (l:List Ltr) (i:Nat) (w:World) (h:Sl w 8 v (lcs l)) (hl:l.length<=24) (hok:∀ x∈l,OkL x) (hi:i < l.length) :
  Calls Tryz.prog 134 #[v,.int .i64 i] w (LOwn (l.eraseIdx i) w):=by
 obtain ⟨x,hx⟩:∃ x,l[i]?=some x:=⟨_,Gj hi⟩;have HA:=Fj (net_at v l i x w h hl hok hx);have HL:=Fj (λW (hW:Evo w W)=>clone_ltr v (lcs l) W (h.at hW) (lcs_len _) (lcs_one _) (by simp; omega));have HE:=Fj (eraseIdx_map Ltr.cells l i);obtain ⟨p,hp⟩:∃ p,l.length=p + 1:=⟨l.length - 1,by omega⟩;have HP:=Fj (show (lcs l).length=p + 1 by simpa using hp);have hip:i<=p:=by omega
 have hp2:p<=24:=by omega
 have hel:(l.eraseIdx i).length<=24:=by rw [List.length_eraseIdx]; split <;> omega
 clear h hok hi hp hl hx
 go_enter Tryz.func134,Tryz.ntmps134
 go_wp2_with fail
 with_reducible refine (HA.out).mono ?_
 rintro e u1 ⟨rfl,e1⟩;have ee:=(Evo.refl u1).alloc (.cells #[.string x.f,.int .i64 x.id,.int .i64 x.kk,.int .i64 x.kn,.string x.ks,.int .i64 x.ak,.int .i64 x.an,.string x.as'] 57);have EE:=Fj (e1.trans ee);clear e1 ee
 go_wp2_with fail
 with_reducible refine (HL.out _ EE.out).mono ?_
 rintro e u3 ⟨v1,rfl,hown,e3⟩;have hd:=delete_ltr v1 (lcs l) i p u3 _ e3 hown (lcs_len _) (lcs_one _) HP.out hip (by omega);have HD:=Fj hd;clear hd hown e3
 go_wp2_with fail
 with_reducible refine (HD.out).mono ?_
 rintro e u4 ⟨v2,rfl,hs,e5⟩;rw [HE.out] at hs;have hc:=clone_ltr v2 (lcs (l.eraseIdx i)) u4 hs (lcs_len _) (lcs_one _) (by simp; omega);have HF:=Fj hc;have E6:=Fj (EE.out.trans e5);clear hc hs e5
 go_wp2_with fail
 with_reducible refine (HF.out).mono ?_
 rintro e u5 ⟨v3,rfl,hown,e7⟩;have hf:=Fj (Aj (hown.low E6.out.size) (E6.out.trans e7));clear hown e7
 go_wp2_with fail
 go_ret2
 exact ⟨_,rfl,hf.out⟩
def Ltr.ans (x:Ltr) (k n:Int) (s:ByteArray):Ltr:={ x with ak:=k,an:=n,as':=s }
set_option linter.unusedVariables false
theorem C0.of_lownL {P:Program} {f:FuncId} {args:Array Value} {l:List Ltr} {h:Vw} (hc:Calls P f args h.w (LOwn l h.w)):C0 P f args h (λv h'=>∃ u,v=.tuple #[.slice (sA u) (sN u) (sC u),.int .i64 0]/\RS h' 8 (.slice (sA u) (sN u) (sC u)) (lcs l)):=by
 intro _ _ _ hbad;refine hc.mono ?_;rintro en w' ⟨v,rfl,ho,hb⟩;have hr:=rs_of_own (bad:=h.bad) ho (lcs_len l) hbad;obtain ⟨A,c,rfl,-⟩:=hr.form;exact ⟨_,[],rfl,Low.of_below hb.below,(λx hx=>by cases hx),rfl,.slice A (lcs l).length c,rfl,hr⟩
section
variable {h:Vw} {v v':Value} {l:List Ltr}
theorem c_loseL (hr:RS h 8 v (lcs l)) (hl:l.length<=24) (hok:∀ x∈l,OkL x) (i:Nat) (hi:i < l.length):C0 Tryz.prog 134 #[v,.int .i64 (i:Int)] h (λr h'=>∃ u,r=.tuple #[.slice (sA u) (sN u) (sC u),.int .i64 0]/\RS h' 8 (.slice (sA u) (sN u) (sC u)) (lcs (l.eraseIdx i))) :=
 C0.of_lownL (net_lose v l i h.w (Sl.of_rs hr) hl hok hi)
end
theorem info_ltk:(Tryz.prog.info? 57).map (λi=>(i.zero,i.size,i.bytes))=some (some (.agg #[.string ⟨#[]⟩,.int .i64 0,.int .i64 0,.int .i64 0,.string ⟨#[]⟩,.int .i64 0,.int .i64 0,.string ⟨#[]⟩]),8,88):=by kernel_rfl
theorem grow_ltk (n:Nat) (w:World) (hl:n * 88<=140737488355328):Calls Tryz.prog 52 #[.slice none 0 0,.int .i64 n] w (oJ 57 8 [] w):=by
 have hn63:n<=140737488355328:=by omega
 obtain ⟨i0,hi0,hz0,hz1,hz2⟩:=info_parts info_ltk;have h1:¬ ((n:Int) < 0):=by omega
 rcases Nat.eq_zero_or_pos n with rfl | hpos
 ·go_enter Tryz.func52,Tryz.ntmps52
  go_wp2_with fail
  go_ret
  exact ⟨_,rfl,⟨by simp,.inl ⟨rfl,rfl⟩⟩,Evo.refl _⟩
 ·have h4:(0:Int) < (n:Int):=by omega
  have hrz:∀ ty,(Builtin.append_ #[37,3] ty #[.slice none 0 0,.int .i64 (n:Int)]).run Tryz.prog w =
    .ok (.slice (some ⟨w.heap.size,0,none⟩) n (grownCap w n 0 57)) (w.drew.alloc (.cells ((#[]:Array Value)++Builtin.zeroCells (.agg #[.string ⟨#[]⟩,.int .i64 0,.int .i64 0,.int .i64 0,.string ⟨#[]⟩,.int .i64 0,.int .i64 0,.string ⟨#[]⟩]:Value).cells n++Builtin.zeroCells (.agg #[.string ⟨#[]⟩,.int .i64 0,.int .i64 0,.int .i64 0,.string ⟨#[]⟩,.int .i64 0,.int .i64 0,.string ⟨#[]⟩]:Value).cells (grownCap w n 0 57 - n)) 57)):=λty=>by
   have h:=Lib.run_append_grow_zeros w 37 3 ty 57 i0 (.agg #[.string ⟨#[]⟩,.int .i64 0,.int .i64 0,.int .i64 0,.string ⟨#[]⟩,.int .i64 0,.int .i64 0,.string ⟨#[]⟩]) .i64 .i64 Tryz.underlying37 Tryz.underlying3 hi0 hz0 none 0 0 [] (run_firstCells_none w.drew i0.size 0 0 0) n (by omega) (by rw [hz1]; omega) (by omega) (by omega) (by rw [hz2]; omega) (by rw [hz2]; exact growslice_fits (by omega) (by simpa using hl))
   simpa using h
  have hGn:n<=grownCap w n 0 57:=grownCap_ge w _ _ _;have hG63:=grownCap_le_maxLen w n 0 57 (by unfold maxLen; omega);obtain ⟨G,hG⟩:∃ G,G=grownCap w n 0 57:=⟨_,rfl⟩;rw [<- hG] at hrz hGn hG63;clear hG;have hsz:((#[]:Array Value)++Builtin.zeroCells (.agg #[.string ⟨#[]⟩,.int .i64 0,.int .i64 0,.int .i64 0,.string ⟨#[]⟩,.int .i64 0,.int .i64 0,.string ⟨#[]⟩]:Value).cells n++Builtin.zeroCells (.agg #[.string ⟨#[]⟩,.int .i64 0,.int .i64 0,.int .i64 0,.string ⟨#[]⟩,.int .i64 0,.int .i64 0,.string ⟨#[]⟩]:Value).cells (G - n)).size=G * 8:=by
   simp [Builtin.zeroCells,Value.cells]; omega
  have hown:Own (w.drew.alloc (.cells ((#[]:Array Value)++Builtin.zeroCells (.agg #[.string ⟨#[]⟩,.int .i64 0,.int .i64 0,.int .i64 0,.string ⟨#[]⟩,.int .i64 0,.int .i64 0,.string ⟨#[]⟩]:Value).cells n++Builtin.zeroCells (.agg #[.string ⟨#[]⟩,.int .i64 0,.int .i64 0,.int .i64 0,.string ⟨#[]⟩,.int .i64 0,.int .i64 0,.string ⟨#[]⟩]:Value).cells (G - n)) 57)) w.heap.size 57 8 (.slice (some ⟨w.heap.size,0,none⟩) 0 G) 0 [] :=
   ⟨World.ownsRow_made w.drew _ G (by exact Hj _) hG63 hsz⟩
  have hE:Evo w (w.drew.alloc (.cells ((#[]:Array Value)++Builtin.zeroCells (.agg #[.string ⟨#[]⟩,.int .i64 0,.int .i64 0,.int .i64 0,.string ⟨#[]⟩,.int .i64 0,.int .i64 0,.string ⟨#[]⟩]:Value).cells n++Builtin.zeroCells (.agg #[.string ⟨#[]⟩,.int .i64 0,.int .i64 0,.int .i64 0,.string ⟨#[]⟩,.int .i64 0,.int .i64 0,.string ⟨#[]⟩]:Value).cells (G - n)) 57)):=(Evo.refl w).drew.alloc _;obtain ⟨W,hW⟩:∃ W,W=w.drew.alloc (.cells ((#[]:Array Value)++Builtin.zeroCells (.agg #[.string ⟨#[]⟩,.int .i64 0,.int .i64 0,.int .i64 0,.string ⟨#[]⟩,.int .i64 0,.int .i64 0,.string ⟨#[]⟩]:Value).cells n++Builtin.zeroCells (.agg #[.string ⟨#[]⟩,.int .i64 0,.int .i64 0,.int .i64 0,.string ⟨#[]⟩,.int .i64 0,.int .i64 0,.string ⟨#[]⟩]:Value).cells (G - n)) 57):=⟨_,rfl⟩;rw [<- hW] at hrz hown hE;have HO:=Fj hown;unfold maxLen at hG63;clear hW hsz hown hpos
  go_enter Tryz.func52,Tryz.ntmps52
  go_wp2_with (at_builtin; refine Lib.wpList_append_run _ rfl _ _ _ _ rfl _ _ rfl rfl _ _ (hrz _) ?_)
  all_goals (go_ret; exact ⟨_,rfl,HO.out,hE⟩)
theorem concat_ltk (v va vb:Value) (la lb:List (List Value)) (w:World) (h:Sl w 1 v [[va],[vb]]) (ha:Sl w 8 va la) (hb:Sl w 8 vb lb) (ka:Len 8 la) (kb:Len 8 lb) (oa:One la) (ob:One lb) (hl:(la.length + lb.length) * 88<=140737488355328) :
  Calls Tryz.prog 17 #[v] w (oJ 57 8 (la++lb) w):=by
 obtain ⟨A,cap,rfl,hcap,hmax,-⟩:=h.form;obtain ⟨b,off,rfl,hbl,hc0⟩:=h.row (i:=0) (r:=[va]) rfl;obtain ⟨b',off',e',-,hc1⟩:=h.row (i:=1) (r:=[vb]) rfl;simp only [Yj,Addr.mk.injEq] at e';obtain ⟨rfl,rfl,-⟩:=e';have c0:∀ W,Evo w W->W.cell? ⟨b,off,none⟩=some va:=by simpa using hc0 0 _ rfl
 have c1:∀ W,Evo w W->W.cell? ⟨b,off + 1,none⟩=some vb:=by simpa using hc1 0 _ rfl
 obtain ⟨A1,cap1,rfl,hcap1,hmax1,-⟩:=ha.form;obtain ⟨A2,cap2,rfl,hcap2,hmax2,-⟩:=hb.form;have HA:=Fj ha;have HB:=Fj hb;have KA:=Fj ka;have KB:=Fj kb;have OA:=Fj oa;have OB:=Fj ob;have hg:=λW=>grow_ltk (la.length + lb.length) W (by omega);simp only [Int.natCast_add] at hg;have HG:=Fj hg;clear hg;have l0:la.length<=140737488355328:=by omega
 have l1:lb.length<=140737488355328:=by omega
 clear h ha hb ka kb oa ob hc0 hc1
 go_enter Tryz.func17,Tryz.ntmps17
 go_wp2_with fail
 go_loopw [3,11] (λs n wr=>wr=w/\((s=.int .i64 0/\n=.int .i64 0)\/(s=.int .i64 la.length/\n=.int .i64 1)\/(s=.int .i64 ((la.length:Int) + (lb.length:Int))/\n=.int .i64 2))) (λ_ n _=>2 - (intOf n).toNat)
 case atStart=>exact ⟨rfl,.inl ⟨rfl,rfl⟩⟩
 case round =>
  obtain ⟨rfl,hrel⟩:=hrel;have e0:=Evo.refl wr;rcases hrel with ⟨rfl,rfl⟩ | ⟨rfl,rfl⟩ | ⟨rfl,rfl⟩
  ·go_wp2_with fail
   go_roundw
   case rel=>exact ⟨trivial,.inr (.inl ⟨rfl,rfl⟩)⟩
   case measure=>simp [intOf]
  ·go_wp2_with fail
   go_roundw
   case rel=>exact ⟨trivial,.inr (.inr ⟨rfl,rfl⟩)⟩
   case measure=>simp [intOf]
  ·go_wp2_with fail
   obtain ⟨wo,rfl⟩:∃ wo:World,wo=wr:=⟨_,rfl⟩
   with_reducible refine (HG.out _).mono ?_
   rintro e u1 ⟨v0,rfl,h0,hE⟩;have HO:=Fj h0;clear h0
   go_wp2_with fail
   go_loopw [6,27] (λv n wr=>∃ (k:Nat) (m:List (List Value)),n=.int .i64 k/\Own wr wo.heap.size 57 8 v m.length m.flatten/\Evo wo wr/\((k=0/\m=[])\/(k=1/\m=la)\/(k=2/\m=la++lb))) (λ_ n _=>2 - (intOf n).toNat)
   case atStart=>exact ⟨0,[],rfl,HO.out,hE,.inl ⟨rfl,rfl⟩⟩
   case round =>
    obtain ⟨k,m,rfl,hown,e1,hm⟩:=hrel;have HN:=Fj hown;clear hown hE HO;rcases hm with ⟨rfl,rfl⟩ | ⟨rfl,rfl⟩ | ⟨rfl,rfl⟩
    ·go_wp2_with (at_builtin; refine uZ rfl (.tmp 31) (.tmp 32) 37 rfl 57 _ 8 88 Tryz.underlying37 info_ltk rfl (by decide) wo e1 [] la _ _ rfl rfl HN.out (HA.out.at e1) KA.out OA.out ?c1 ?c2 ?_)
     case c1=>simp; omega
     case c2=>simp; omega
     intro v' w1 hown e2 hg;have HM:=Fj hown;clear hown hg e1
     go_wp2_with fail
     go_roundw
     case rel=>exact ⟨1,la,rfl,by simpa using HM.out,e2,.inr (.inl ⟨rfl,rfl⟩)⟩
     case measure=>simp [intOf]
    ·go_wp2_with (at_builtin; refine uZ rfl (.tmp 31) (.tmp 32) 37 rfl 57 _ 8 88 Tryz.underlying37 info_ltk rfl (by decide) wo e1 m lb _ _ rfl rfl HN.out (HB.out.at e1) KB.out OB.out ?c1 ?c2 ?_)
     case c1=>omega
     case c2=>omega
     intro v' w1 hown e2 hg;have HM:=Fj hown;clear hown hg e1
     go_wp2_with fail
     go_roundw
     case rel=>exact ⟨2,m++lb,rfl,by simpa using HM.out,e2,.inr (.inr ⟨rfl,rfl⟩)⟩
     case measure=>simp [intOf]
    ·go_wp2_with fail
     go_ret
     exact ⟨_,rfl,by simpa using HN.out,e1⟩
theorem lts_len (l:List Lt):Len 8 (gW l):=λr hr=>by
 obtain ⟨x,-,rfl⟩:=Rj.1 hr
 rfl
theorem lts_one (l:List Lt):One (gW l):=λr hr=>by
 obtain ⟨x,-,rfl⟩:=Rj.1 hr;simp [Lt.cells,Value.oneCell']
section
variable {h:Vw} {v va vb vc:Value} {la lb lc:List Lt}
theorem c_concatT (hr:RS h 1 v [[va],[vb]]) (ha:RS h 8 va (gW la)) (hb:RS h 8 vb (gW lb)) (hl:la.length + lb.length<=1000000):C0 Tryz.prog 17 #[v] h (λr h'=>∃ u,r=(.slice (sA u) (sN u) (sC u))/\RS h' 8 ((.slice (sA u) (sN u) (sC u))) (gW (la++lb))):=by
 have:=concat_ltk v va vb (gW la) (gW lb) h.w (Sl.of_rs hr) (Sl.of_rs ha) (Sl.of_rs hb) (lts_len _) (lts_len _) (lts_one _) (lts_one _) (by simp; omega)
 rw [show gW la++gW lb=gW (la++lb) by simp] at this;exact C0.of_own (lts_len _) this
end
theorem RS.of_sl {w:World} {k:Nat} {v:Value} {l:List (List Value)} (h:Sl w k v l):RS ⟨w,[]⟩ k v l:=by
 rcases h with h | ⟨b,off,cap,e,h1,h2,hb,hc⟩
 ·exact .inl h
 ·exact .inr ⟨b,off,cap,e,h1,h2,hb,by simp,λi r hi j u hj=>hc i r hi j u hj⟩
theorem RawsOf.rs {w:World} {v:Value} {l:List RawD} (h:RawsOf w v l):RS ⟨w,[]⟩ 4 v (l.map RawD.cs):=RS.of_sl h.1
end Go.Proofs.YthgcgciceejicaaGreatDoor
