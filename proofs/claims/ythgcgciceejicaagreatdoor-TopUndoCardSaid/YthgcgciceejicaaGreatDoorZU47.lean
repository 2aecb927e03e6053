/-
  How a law's argument of type []Raw is opened: a slice of rows.
-/
import Derived.Test.YthgcgciceejicaaGreatDoorZU39
set_option maxHeartbeats 4000000
set_option maxRecDepth 100000
namespace Go.Proofs.YthgcgciceejicaaGreatDoor
open Go.ChangeShapes Go.WideShapes Go.ChangeAt Go.RowKit Go.Deep
@[reducible] def RawD.cells (r:RawD):List Value:=[.int .i64 r.k,.int .i64 r.a,.int .i64 r.b,.string r.t]
def RawsOf (w:World) (v:Value) (l:List RawD):Prop:=Sl w 4 v (l.map RawD.cells)/\l.length * 40<=reachBytes/\∀ r∈l,r.ok
section
variable {H:Type} {enc:TypeId × Value->H} {w:World} {base:Nat} {sp:Nat->Bool} {held:Bool}
theorem open_rows {r:Reach} {b0:Nat} {v:Value} {d:DataW H} {p:List MemPlace} (hv:Value.okWide Tryz.prog w r b0 22 v) (h:DataW.Trod enc Tryz.prog w 0 (λ_=>true) held 22 v d p)
  (hz:∀ es ss,d=.slice es ss->(es.length + ss.length) * Tryz.prog.bytesOf 24<=reachBytes):∃ l:List RawD,RawsOf w v l:=by
 obtain ⟨a,len,cap,rfl⟩:=okWide_slice Tryz.underlying22 hv;obtain ⟨fuel,hf⟩:=h;rcases open_slice_fields Tryz.underlying22 Tryz.underlying24 (by kernel_rfl) cellsRaw hf with ⟨hcs,_⟩ | ⟨x,l,c,m,D,Pl,hcs,_,hl,hm,hmm,hx,hi⟩
 ·simp [Value.cells] at hcs;obtain ⟨rfl,rfl,rfl⟩:=hcs;exact ⟨[],.inl ⟨none,0,rfl,λ_=>rfl,Oj _,rfl⟩,by simp,by simp⟩
 ·simp [Value.cells] at hcs;obtain ⟨rfl,rfl,rfl⟩:=hcs;simp only [Sk] at hx;have hw:=hz _ _ hx.1;rw [bytesRaw] at hw;simp at hmm;subst hmm;simp only [Hj,List.length_range] at hw;have hcap:m * 40<=reachBytes:=by rw [show len + (m - len)=m by omega] at hw; exact hw
  have one:∀ i,i < len->∃ q:RawD,q.ok/\w.cell? (x.add (i * 4))=some (.int .i64 q.k)/\w.cell? (x.add (i * 4 + 1))=some (.int .i64 q.a)/\w.cell? (x.add (i * 4 + 2))=some (.int .i64 q.b)/\w.cell? (x.add (i * 4 + 3))=some (.string q.t):=by
   intro i hlt;obtain ⟨ys,n,-,-,-,hf⟩:=hi i (by omega);obtain ⟨v0,y0,c0,-,t0⟩:=hf 0 _ rfl;obtain ⟨v1,y1,c1,-,t1⟩:=hf 1 _ rfl;obtain ⟨v2,y2,c2,-,t2⟩:=hf 2 _ rfl;obtain ⟨v3,y3,c3,-,t3⟩:=hf 3 _ rfl;obtain ⟨n0,e0,-,w0⟩:=DataW.trod_int Tryz.underlying3 t0;obtain ⟨n1,e1,-,w1⟩:=DataW.trod_int Tryz.underlying3 t1;obtain ⟨n2,e2,-,w2⟩:=DataW.trod_int Tryz.underlying3 t2;obtain ⟨s,e3,-,w3⟩:=DataW.trod_string Tryz.underlying9 t3;simp only [Gk,Hk] at e0 e1 e2 e3;subst e0 e1 e2 e3;exact ⟨⟨n0,n1,n2,s⟩,⟨⟨int_lo w0,int_hi w0⟩,⟨int_lo w1,int_hi w1⟩,⟨int_lo w2,int_hi w2⟩,w3⟩,c0,c1,c2,c3⟩
  haveI:Inhabited RawD:=⟨⟨0,0,0,ByteArray.empty⟩⟩
  obtain ⟨f,hfn⟩:=choose_lt one;refine ⟨(List.range len).map f,?_,by simp; omega,?_⟩
  ·rcases Nat.eq_zero_or_pos len with h0 | hpos
   ·left; subst h0
    exact ⟨some x,m,rfl,(λk=>by cases k),hm,rfl⟩
   ·right
    have c0:=(hfn 0 hpos).2.1;obtain ⟨b,off,spot⟩:=x;have hb:b < w.heap.size:=Ox w ⟨b,off,spot⟩ (by simpa [Addr.add] using c0);have hs:spot=none:=by
     cases spot with
     | none=>rfl
     | some k =>
      exfalso
      simp only [Nat.zero_mul,Addr.add,if_true] at c0;unfold World.cell? at c0
      split at c0 <;> simp at c0
    subst hs;refine ⟨b,off,m,by simp,by simpa using hl,hm,hb,λi r hi j u hj=>?_⟩;rw [Mj] at hi;obtain ⟨q,hq,rfl⟩:=Yv.1 hi;have hlt:i < len:=by
     have:=(Nj.1 hq).1; simpa using this
    have e:f i=q:=by simpa [hlt] using hq
    subst e;obtain ⟨-,k0,k1,k2,k3⟩:=hfn i hlt;have ad:∀ n,(⟨b,off,none⟩:Addr).add n=⟨b,off + n,none⟩:=by intro n; unfold Addr.add; split <;> simp_all
    rw [ad] at k0 k1 k2 k3
    match j,hj with
    | 0,hj=>simp [RawD.cells] at hj; subst hj; exact k0
    | 1,hj=>simp [RawD.cells] at hj; subst hj; rw [Nat.add_assoc]; exact k1
    | 2,hj=>simp [RawD.cells] at hj; subst hj; rw [Nat.add_assoc]; exact k2
    | 3,hj=>simp [RawD.cells] at hj; subst hj; rw [Nat.add_assoc]; exact k3
  ·intro r hr;obtain ⟨i,hi',rfl⟩:=Rj.1 hr;exact (hfn i (by simpa using hi')).1
end
open Go.RowKit
theorem info_ltk:(Tryz.prog.info? 57).map (λi=>(i.zero,i.size,i.bytes))=some (some (.agg #[.string ⟨#[]⟩,.int .i64 0,.int .i64 0,.int .i64 0,.string ⟨#[]⟩,.int .i64 0,.int .i64 0,.string ⟨#[]⟩]),8,88):=by kernel_rfl
theorem grow_ltk (n:Nat) (w:World) (hl:n * 88<=140737488355328):Calls Tryz.prog 52 #[.slice none 0 0,.int .i64 n] w (oJ 57 8 [] w):=by
 have hn63:n<=140737488355328:=by omega
 obtain ⟨i0,hi0,hz0,hz1,hz2⟩:=info_parts info_ltk;have h1:¬ ((n:Int) < 0):=by omega
 rcases Nat.eq_zero_or_pos n with rfl | hpos
 ·go_enter Tryz.func52,Tryz.ntmps52
  go_wp2_with fail
  go_ret
  exact ⟨_,rfl,⟨by simp,.inl ⟨rfl,rfl⟩⟩,Evo.refl _⟩
 ·have h4:(0:Int) < (n:Int):=by omega
  have hrz:∀ ty,(Builtin.append_ #[37,3] ty #[.slice none 0 0,.int .i64 (n:Int)]).run Tryz.prog w =
    .ok (.slice (some ⟨w.heap.size,0,none⟩) n (grownCap w n 0 57)) (w.drew.alloc (.cells ((#[]:Array Value)++Builtin.zeroCells (.agg #[.string ⟨#[]⟩,.int .i64 0,.int .i64 0,.int .i64 0,.string ⟨#[]⟩,.int .i64 0,.int .i64 0,.string ⟨#[]⟩]:Value).cells n++Builtin.zeroCells (.agg #[.string ⟨#[]⟩,.int .i64 0,.int .i64 0,.int .i64 0,.string ⟨#[]⟩,.int .i64 0,.int .i64 0,.string ⟨#[]⟩]:Value).cells (grownCap w n 0 57 - n)) 57)):=λty=>by
   have h:=Lib.run_append_grow_zeros w 37 3 ty 57 i0 (.agg #[.string ⟨#[]⟩,.int .i64 0,.int .i64 0,.int .i64 0,.string ⟨#[]⟩,.int .i64 0,.int .i64 0,.string ⟨#[]⟩]) .i64 .i64 Tryz.underlying37 Tryz.underlying3 hi0 hz0 none 0 0 [] (run_firstCells_none w.drew i0.size 0 0 0) n (by omega) (by rw [hz1]; omega) (by omega) (by omega) (by rw [hz2]; omega) (by rw [hz2]; exact growslice_fits (by omega) (by simpa using hl))
   simpa using h
  have hGn:n<=grownCap w n 0 57:=grownCap_ge w _ _ _;have hG63:=grownCap_le_maxLen w n 0 57 (by unfold maxLen; omega);obtain ⟨G,hG⟩:∃ G,G=grownCap w n 0 57:=⟨_,rfl⟩;rw [<- hG] at hrz hGn hG63;clear hG;have hsz:((#[]:Array Value)++Builtin.zeroCells (.agg #[.string ⟨#[]⟩,.int .i64 0,.int .i64 0,.int .i64 0,.string ⟨#[]⟩,.int .i64 0,.int .i64 0,.string ⟨#[]⟩]:Value).cells n++Builtin.zeroCells (.agg #[.string ⟨#[]⟩,.int .i64 0,.int .i64 0,.int .i64 0,.string ⟨#[]⟩,.int .i64 0,.int .i64 0,.string ⟨#[]⟩]:Value).cells (G - n)).size=G * 8:=by
   simp [Builtin.zeroCells,Value.cells]; omega
  have hown:Own (w.drew.alloc (.cells ((#[]:Array Value)++Builtin.zeroCells (.agg #[.string ⟨#[]⟩,.int .i64 0,.int .i64 0,.int .i64 0,.string ⟨#[]⟩,.int .i64 0,.int .i64 0,.string ⟨#[]⟩]:Value).cells n++Builtin.zeroCells (.agg #[.string ⟨#[]⟩,.int .i64 0,.int .i64 0,.int .i64 0,.string ⟨#[]⟩,.int .i64 0,.int .i64 0,.string ⟨#[]⟩]:Value).cells (G - n)) 57)) w.heap.size 57 8 (.slice (some ⟨w.heap.size,0,none⟩) 0 G) 0 [] :=
   ⟨World.ownsRow_made w.drew _ G (by exact Ij _) hG63 hsz⟩
  have hE:Evo w (w.drew.alloc (.cells ((#[]:Array Value)++Builtin.zeroCells (.agg #[.string ⟨#[]⟩,.int .i64 0,.int .i64 0,.int .i64 0,.string ⟨#[]⟩,.int .i64 0,.int .i64 0,.string ⟨#[]⟩]:Value).cells n++Builtin.zeroCells (.agg #[.string ⟨#[]⟩,.int .i64 0,.int .i64 0,.int .i64 0,.string ⟨#[]⟩,.int .i64 0,.int .i64 0,.string ⟨#[]⟩]:Value).cells (G - n)) 57)):=(Evo.refl w).drew.alloc _;obtain ⟨W,hW⟩:∃ W,W=w.drew.alloc (.cells ((#[]:Array Value)++Builtin.zeroCells (.agg #[.string ⟨#[]⟩,.int .i64 0,.int .i64 0,.int .i64 0,.string ⟨#[]⟩,.int .i64 0,.int .i64 0,.string ⟨#[]⟩]:Value).cells n++Builtin.zeroCells (.agg #[.string ⟨#[]⟩,.int .i64 0,.int .i64 0,.int .i64 0,.string ⟨#[]⟩,.int .i64 0,.int .i64 0,.string ⟨#[]⟩]:Value).cells (G - n)) 57):=⟨_,rfl⟩;rw [<- hW] at hrz hown hE;have HO:=Gj hown;unfold maxLen at hG63;clear hW hsz hown hpos
  go_enter Tryz.func52,Tryz.ntmps52
  go_wp2_with (at_builtin; refine Lib.wpList_append_run _ rfl _ _ _ _ rfl _ _ rfl rfl _ _ (hrz _) ?_)
  all_goals (go_ret; exact ⟨_,rfl,HO.out,hE⟩)
theorem concat_ltk (v va vb:Value) (la lb:List (List Value)) (w:World) (h:Sl w 1 v [[va],[vb]]) (ha:Sl w 8 va la) (hb:Sl w 8 vb lb) (ka:Len 8 la) (kb:Len 8 lb) (oa:One la) (ob:One lb) (hl:(la.length + lb.length) * 88<=140737488355328) :
  Calls Tryz.prog 17 #[v] w (oJ 57 8 (la++lb) w):=by
 obtain ⟨A,cap,rfl,hcap,hmax,-⟩:=h.form;obtain ⟨b,off,rfl,hbl,hc0⟩:=h.row (i:=0) (r:=[va]) rfl;obtain ⟨b',off',e',-,hc1⟩:=h.row (i:=1) (r:=[vb]) rfl;simp only [Wj,Addr.mk.injEq] at e';obtain ⟨rfl,rfl,-⟩:=e';have c0:∀ W,Evo w W->W.cell? ⟨b,off,none⟩=some va:=by simpa using hc0 0 _ rfl
 have c1:∀ W,Evo w W->W.cell? ⟨b,off + 1,none⟩=some vb:=by simpa using hc1 0 _ rfl
 obtain ⟨A1,cap1,rfl,hcap1,hmax1,-⟩:=ha.form;obtain ⟨A2,cap2,rfl,hcap2,hmax2,-⟩:=hb.form;have HA:=Gj ha;have HB:=Gj hb;have KA:=Gj ka;have KB:=Gj kb;have OA:=Gj oa;have OB:=Gj ob;have hg:=λW=>grow_ltk (la.length + lb.length) W (by omega);simp only [Int.natCast_add] at hg;have HG:=Gj hg;clear hg;have l0:la.length<=140737488355328:=by omega
 have l1:lb.length<=140737488355328:=by omega
 clear h ha hb ka kb oa ob hc0 hc1
 go_enter Tryz.func17,Tryz.ntmps17
 go_wp2_with fail
 go_loopw [3,11] (λs n wr=>wr=w/\((s=.int .i64 0/\n=.int .i64 0)\/(s=.int .i64 la.length/\n=.int .i64 1)\/(s=.int .i64 ((la.length:Int) + (lb.length:Int))/\n=.int .i64 2))) (λ_ n _=>2 - (intOf n).toNat)
 case atStart=>exact ⟨rfl,.inl ⟨rfl,rfl⟩⟩
 case round =>
  obtain ⟨rfl,hrel⟩:=hrel;have e0:=Evo.refl wr;rcases hrel with ⟨rfl,rfl⟩ | ⟨rfl,rfl⟩ | ⟨rfl,rfl⟩
  ·go_wp2_with fail
   go_roundw
   case rel=>exact ⟨trivial,.inr (.inl ⟨rfl,rfl⟩)⟩
   case measure=>simp [intOf]
  ·go_wp2_with fail
   go_roundw
   case rel=>exact ⟨trivial,.inr (.inr ⟨rfl,rfl⟩)⟩
   case measure=>simp [intOf]
  ·go_wp2_with fail
   obtain ⟨wo,rfl⟩:∃ wo:World,wo=wr:=⟨_,rfl⟩
   with_reducible refine (HG.out _).mono ?_
   rintro e u1 ⟨v0,rfl,h0,hE⟩;have HO:=Gj h0;clear h0
   go_wp2_with fail
   go_loopw [6,27] (λv n wr=>∃ (k:Nat) (m:List (List Value)),n=.int .i64 k/\Own wr wo.heap.size 57 8 v m.length m.flatten/\Evo wo wr/\((k=0/\m=[])\/(k=1/\m=la)\/(k=2/\m=la++lb))) (λ_ n _=>2 - (intOf n).toNat)
   case atStart=>exact ⟨0,[],rfl,HO.out,hE,.inl ⟨rfl,rfl⟩⟩
   case round =>
    obtain ⟨k,m,rfl,hown,e1,hm⟩:=hrel;have HN:=Gj hown;clear hown hE HO;rcases hm with ⟨rfl,rfl⟩ | ⟨rfl,rfl⟩ | ⟨rfl,rfl⟩
    ·go_wp2_with (at_builtin; refine lA rfl (.tmp 31) (.tmp 32) 37 rfl 57 _ 8 88 Tryz.underlying37 info_ltk rfl (by decide) wo e1 [] la _ _ rfl rfl HN.out (HA.out.at e1) KA.out OA.out ?c1 ?c2 ?_)
     case c1=>simp; omega
     case c2=>simp; omega
     intro v' w1 hown e2 hg;have HM:=Gj hown;clear hown hg e1
     go_wp2_with fail
     go_roundw
     case rel=>exact ⟨1,la,rfl,by simpa using HM.out,e2,.inr (.inl ⟨rfl,rfl⟩)⟩
     case measure=>simp [intOf]
    ·go_wp2_with (at_builtin; refine lA rfl (.tmp 31) (.tmp 32) 37 rfl 57 _ 8 88 Tryz.underlying37 info_ltk rfl (by decide) wo e1 m lb _ _ rfl rfl HN.out (HB.out.at e1) KB.out OB.out ?c1 ?c2 ?_)
     case c1=>omega
     case c2=>omega
     intro v' w1 hown e2 hg;have HM:=Gj hown;clear hown hg e1
     go_wp2_with fail
     go_roundw
     case rel=>exact ⟨2,m++lb,rfl,by simpa using HM.out,e2,.inr (.inr ⟨rfl,rfl⟩)⟩
     case measure=>simp [intOf]
    ·go_wp2_with fail
     go_ret
     exact ⟨_,rfl,by simpa using HN.out,e1⟩
theorem concat3_ltk (v va vb vc:Value) (la lb lc:List (List Value)) (w:World) (h:Sl w 1 v [[va],[vb],[vc]]) (ha:Sl w 8 va la) (hb:Sl w 8 vb lb) (hc:Sl w 8 vc lc) (ka:Len 8 la) (kb:Len 8 lb) (kc:Len 8 lc) (oa:One la) (ob:One lb) (oc:One lc) (hl:(la.length + lb.length + lc.length) * 88<=140737488355328) :
  Calls Tryz.prog 17 #[v] w (oJ 57 8 (la++lb++lc) w):=by
 obtain ⟨A,cap,rfl,hcap,hmax,-⟩:=h.form;obtain ⟨b,off,rfl,hbl,hc0⟩:=h.row (i:=0) (r:=[va]) rfl;obtain ⟨b',off',e',-,hc1⟩:=h.row (i:=1) (r:=[vb]) rfl;simp only [Wj,Addr.mk.injEq] at e';obtain ⟨rfl,rfl,-⟩:=e';obtain ⟨b2,off2,e2,-,hc2⟩:=h.row (i:=2) (r:=[vc]) rfl;simp only [Wj,Addr.mk.injEq] at e2;obtain ⟨rfl,rfl,-⟩:=e2;have c0:∀ W,Evo w W->W.cell? ⟨b,off,none⟩=some va:=by simpa using hc0 0 _ rfl
 have c1:∀ W,Evo w W->W.cell? ⟨b,off + 1,none⟩=some vb:=by simpa using hc1 0 _ rfl
 have c2:∀ W,Evo w W->W.cell? ⟨b,off + 2,none⟩=some vc:=by simpa using hc2 0 _ rfl
 obtain ⟨A1,cap1,rfl,hcap1,hmax1,-⟩:=ha.form;obtain ⟨A2,cap2,rfl,hcap2,hmax2,-⟩:=hb.form;obtain ⟨A3,cap3,rfl,hcap3,hmax3,-⟩:=hc.form;have HA:=Gj ha;have HC:=Gj hc;have KC:=Gj kc;have OC:=Gj oc;have HB:=Gj hb;have KA:=Gj ka;have KB:=Gj kb;have OA:=Gj oa;have OB:=Gj ob;have hg:=λW=>grow_ltk (la.length + lb.length + lc.length) W (by omega);simp only [Int.natCast_add] at hg;have HG:=Gj hg;clear hg;have l0:la.length<=140737488355328:=by omega
 have l1:lb.length<=140737488355328:=by omega
 have l2:lc.length<=140737488355328:=by omega
 have l3:la.length + lb.length<=140737488355328:=by omega
 clear h ha hb hc ka kb kc oa ob oc hc0 hc1 hc2
 go_enter Tryz.func17,Tryz.ntmps17
 go_wp2_with fail
 go_loopw [3,11] (λs n wr=>wr=w/\((s=.int .i64 0/\n=.int .i64 0)\/(s=.int .i64 la.length/\n=.int .i64 1)\/(s=.int .i64 ((la.length:Int) + (lb.length:Int))/\n=.int .i64 2)\/(s=.int .i64 ((la.length:Int) + (lb.length:Int) + (lc.length:Int))/\n=.int .i64 3))) (λ_ n _=>3 - (intOf n).toNat)
 case atStart=>exact ⟨rfl,.inl ⟨rfl,rfl⟩⟩
 case round =>
  obtain ⟨rfl,hrel⟩:=hrel;have e0:=Evo.refl wr;rcases hrel with ⟨rfl,rfl⟩ | ⟨rfl,rfl⟩ | ⟨rfl,rfl⟩ | ⟨rfl,rfl⟩
  ·go_wp2_with fail
   go_roundw
   case rel=>exact ⟨trivial,.inr (.inl ⟨rfl,rfl⟩)⟩
   case measure=>simp [intOf]
  ·go_wp2_with fail
   go_roundw
   case rel=>exact ⟨trivial,.inr (.inr (.inl ⟨rfl,rfl⟩))⟩
   case measure=>simp [intOf]
  ·go_wp2_with fail
   go_roundw
   case rel=>exact ⟨trivial,.inr (.inr (.inr ⟨rfl,rfl⟩))⟩
   case measure=>simp [intOf]
  ·go_wp2_with fail
   obtain ⟨wo,rfl⟩:∃ wo:World,wo=wr:=⟨_,rfl⟩
   with_reducible refine (HG.out _).mono ?_
   rintro e u1 ⟨v0,rfl,h0,hE⟩;have HO:=Gj h0;clear h0
   go_wp2_with fail
   go_loopw [6,27] (λv n wr=>∃ (k:Nat) (m:List (List Value)),n=.int .i64 k/\Own wr wo.heap.size 57 8 v m.length m.flatten/\Evo wo wr/\((k=0/\m=[])\/(k=1/\m=la)\/(k=2/\m=la++lb)\/(k=3/\m=la++lb++lc))) (λ_ n _=>3 - (intOf n).toNat)
   case atStart=>exact ⟨0,[],rfl,HO.out,hE,.inl ⟨rfl,rfl⟩⟩
   case round =>
    obtain ⟨k,m,rfl,hown,e1,hm⟩:=hrel;have HN:=Gj hown;clear hown hE HO;rcases hm with ⟨rfl,rfl⟩ | ⟨rfl,rfl⟩ | ⟨rfl,rfl⟩ | ⟨rfl,rfl⟩
    ·go_wp2_with (at_builtin; refine lA rfl (.tmp 31) (.tmp 32) 37 rfl 57 _ 8 88 Tryz.underlying37 info_ltk rfl (by decide) wo e1 [] la _ _ rfl rfl HN.out (HA.out.at e1) KA.out OA.out ?c1 ?c2 ?_)
     case c1=>simp; omega
     case c2=>simp; omega
     intro v' w1 hown e2 hg;have HM:=Gj hown;clear hown hg e1
     go_wp2_with fail
     go_roundw
     case rel=>exact ⟨1,la,rfl,by simpa using HM.out,e2,.inr (.inl ⟨rfl,rfl⟩)⟩
     case measure=>simp [intOf]
    ·go_wp2_with (at_builtin; refine lA rfl (.tmp 31) (.tmp 32) 37 rfl 57 _ 8 88 Tryz.underlying37 info_ltk rfl (by decide) wo e1 m lb _ _ rfl rfl HN.out (HB.out.at e1) KB.out OB.out ?c1 ?c2 ?_)
     case c1=>omega
     case c2=>omega
     intro v' w1 hown e2 hg;have HM:=Gj hown;clear hown hg e1
     go_wp2_with fail
     go_roundw
     case rel=>exact ⟨2,m++lb,rfl,by simpa using HM.out,e2,.inr (.inr (.inl ⟨rfl,rfl⟩))⟩
     case measure=>simp [intOf]
    ·go_wp2_with (at_builtin; refine lA rfl (.tmp 31) (.tmp 32) 37 rfl 57 _ 8 88 Tryz.underlying37 info_ltk rfl (by decide) wo e1 (la++lb) lc _ _ rfl rfl HN.out (HC.out.at e1) KC.out OC.out ?c1 ?c2 ?_)
     case c1=>simp; omega
     case c2=>simp; omega
     intro v' w1 hown e2 hg;have HM:=Gj hown;clear hown hg e1
     go_wp2_with fail
     go_roundw
     case rel=>exact ⟨3,la++lb++lc,rfl,by simpa using HM.out,e2,.inr (.inr (.inr ⟨rfl,rfl⟩))⟩
     case measure=>simp [intOf]
    ·go_wp2_with fail
     go_ret
     exact ⟨_,rfl,by simpa using HN.out,e1⟩
theorem lts_len (l:List Lt):Len 8 (oW l):=λr hr=>by
 obtain ⟨x,-,rfl⟩:=Rj.1 hr
 rfl
theorem lts_one (l:List Lt):One (oW l):=λr hr=>by
 obtain ⟨x,-,rfl⟩:=Rj.1 hr;simp [Lt.cells,Value.oneCell']
section
variable {h:Vw} {v va vb vc:Value} {la lb lc:List Lt}
theorem c_concatT (hr:RS h 1 v [[va],[vb]]) (ha:RS h 8 va (oW la)) (hb:RS h 8 vb (oW lb)) (hl:la.length + lb.length<=1000000):C0 Tryz.prog 17 #[v] h (λr h'=>∃ u,r=(.slice (sA u) (sN u) (sC u))/\RS h' 8 ((.slice (sA u) (sN u) (sC u))) (oW (la++lb))):=by
 have:=concat_ltk v va vb (oW la) (oW lb) h.w (Sl.of_rs hr) (Sl.of_rs ha) (Sl.of_rs hb) (lts_len _) (lts_len _) (lts_one _) (lts_one _) (by simp; omega)
 rw [show oW la++oW lb=oW (la++lb) by simp] at this;exact C0.of_own (lts_len _) this
theorem c_concat3T (hr:RS h 1 v [[va],[vb],[vc]]) (ha:RS h 8 va (oW la)) (hb:RS h 8 vb (oW lb)) (hc:RS h 8 vc (oW lc)) (hl:la.length + lb.length + lc.length<=1000000):C0 Tryz.prog 17 #[v] h (λr h'=>∃ u,r=(.slice (sA u) (sN u) (sC u))/\RS h' 8 ((.slice (sA u) (sN u) (sC u))) (oW (la++lb++lc))):=by
 have:=concat3_ltk v va vb vc (oW la) (oW lb) (oW lc) h.w (Sl.of_rs hr) (Sl.of_rs ha) (Sl.of_rs hb) (Sl.of_rs hc) (lts_len _) (lts_len _) (lts_len _) (lts_one _) (lts_one _) (lts_one _) (by simp; omega)
 rw [show oW la++oW lb++oW lc=oW (la++lb++lc) by simp] at this;exact C0.of_own (lts_len _) this
end
end Go.Proofs.YthgcgciceejicaaGreatDoor
