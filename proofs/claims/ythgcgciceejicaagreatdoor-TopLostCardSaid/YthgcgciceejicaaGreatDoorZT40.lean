/-
  Contracts of package gap and of the law's own Policy.
-/
import Derived.Test.YthgcgciceejicaaGreatDoorZT12
import Derived.Test.YthgcgciceejicaaGreatDoorZT1
set_option maxHeartbeats 1000000
namespace Go.Proofs.YthgcgciceejicaaGreatDoor
open Go.RowKit
def pol (t b c:Int):Value:=.agg #[.int .i64 t,.int .i64 b,.int .i64 c]
theorem gap_check (t b c:Int) (w:World) (h0:1<=t) (h1:t<=6) (h2:1<=b) (h3:b<=c) (h4:c<=1000) :
  Calls Tryz.prog 42 #[.agg #[.int .i64 t,.int .i64 b,.int .i64 c]] w (Gives (.int .i64 0) w):=by
 go_enter Tryz.func42,Tryz.ntmps42
 go_wp2
 go_ret
 exact ⟨rfl,(Wj _ _).alloc (Hj _) _⟩
def gapV (b c n:Int):Int:=if b * 2 ^ (n.toNat - 1)<=c then b * 2 ^ (n.toNat - 1) else c
theorem pow_small {b n:Int} (h2:1<=b) (h3:b<=1000) (h5:1<=n) (h6:n<=6):1<=b * 2 ^ (n.toNat - 1)/\b * 2 ^ (n.toNat - 1)<=32000:=by
 obtain rfl | rfl | rfl | rfl | rfl | rfl:n=1\/n=2\/n=3\/n=4\/n=5\/n=6:=by omega
 all_goals simp
 all_goals omega
theorem gap_le {b c n:Int} (h2:1<=b) (h3:b<=1000) (h5:1<=n) (h6:n<=6) (h:wrap64 (b * 2 ^ (n.toNat - 1))<=c) :
  Value.tuple #[.int .i64 (wrap64 (b * 2 ^ (n.toNat - 1))),.int .i64 0]=.tuple #[.int .i64 (gapV b c n),.int .i64 0]:=by
 have:=pow_small h2 h3 h5 h6
 rw [IntWalk.wrap64_in _ (by omega)] at h ⊢;rw [gapV,Cj h]
theorem gap_gt {b c n:Int} (h2:1<=b) (h3:b<=1000) (h5:1<=n) (h6:n<=6) (h:c < wrap64 (b * 2 ^ (n.toNat - 1))) :
  Value.tuple #[.int .i64 c,.int .i64 0]=.tuple #[.int .i64 (gapV b c n),.int .i64 0]:=by
 have:=pow_small h2 h3 h5 h6
 rw [IntWalk.wrap64_in _ (by omega)] at h;rw [gapV,Bj (by omega)]
theorem gapV_lo {b c n:Int} (h2:1<=b) (h3:b<=c) (h4:c<=1000) (h5:1<=n) (h6:n<=6):1<=gapV b c n:=by
 have:=pow_small h2 (by omega) h5 h6
 unfold gapV; split <;> omega
theorem gapV_hi {b c n:Int}:gapV b c n<=c:=by
 unfold gapV; split <;> omega
theorem gap_of (t b c n:Int) (w:World) (h0:1<=t) (h1:t<=6) (h2:1<=b) (h3:b<=c) (h4:c<=1000) (h5:1<=n) (h6:n<=t) :
  Calls Tryz.prog 105 #[.agg #[.int .i64 t,.int .i64 b,.int .i64 c],.int .i64 n] w (Gives (.tuple #[.int .i64 (gapV b c n),.int .i64 0]) w):=by
 go_enter Tryz.func105,Tryz.ntmps105
 go_wp2_with fail
 with_reducible refine (gap_check t b c _ h0 h1 h2 h3 h4).mono ?_
 rintro e w' ⟨rfl,hb⟩;have hbb:Below w.heap.size w w':=((Wj _ _).alloc (Hj _) _).trans (hb.mono (by simp));obtain ⟨hc,hf⟩:=bcell hb
 go_wp2_with fail
 go_quiet (fail)
 go_wp2_with fail
 all_goals go_ret2
 all_goals first | exact gives_mk (gap_le h2 (by omega) h5 (by omega) (by assumption)) (below_drewN hbb _) | exact gives_mk (gap_gt h2 (by omega) h5 (by omega) (by assumption)) (below_drewN hbb _)
def OkPol (t b c:Int):Prop:=1<=t/\t<=6/\1<=b/\b<=c/\c<=1000
theorem known_kind0 {k n:Int} {s:ByteArray} (h:pJ k n s):(k == 0)=false:=by
 have:=known_kind h
 exact Lj.2 (by omega)
theorem call_check_ask (t b c id tr kk kn nx:Int) (ks:ByteArray) (w:World) (hp:OkPol t b c) (i0:1<=id) (i1:id<=1073741824) (t0:1<=tr) (t1:tr<=t) (n0:0<=nx) (n1:nx<=1073742824) (hk:pJ kk kn ks) :
  Calls Tryz.prog 104 #[.agg #[.int .i64 1,.int .i64 id,.int .i64 tr,.int .i64 kk,.int .i64 kn,.string ks,.int .i64 0,.int .i64 0,.string ⟨#[]⟩,.int .i64 nx],.agg #[.int .i64 t,.int .i64 b,.int .i64 c]] w (Gives (.int .i64 0) w):=by
 obtain ⟨p0,p1,p2,p3,p4⟩:=hp;have HK:=Fj hk;clear hk;have bx1:=(Box.new w #[.int .i64 1,.int .i64 id,.int .i64 tr,.int .i64 kk,.int .i64 kn,.string ks,.int .i64 0,.int .i64 0,.string ⟨#[]⟩,.int .i64 nx] 130).alloc (.cells #[.int .i64 t,.int .i64 b,.int .i64 c] 31);have BX1:=Fj bx1;clear bx1;have bx2:=Box.new (w.alloc (.cells #[.int .i64 1,.int .i64 id,.int .i64 tr,.int .i64 kk,.int .i64 kn,.string ks,.int .i64 0,.int .i64 0,.string ⟨#[]⟩,.int .i64 nx] 130)) #[.int .i64 t,.int .i64 b,.int .i64 c] 31;rw [show (w.alloc (.cells #[.int .i64 1,.int .i64 id,.int .i64 tr,.int .i64 kk,.int .i64 kn,.string ks,.int .i64 0,.int .i64 0,.string ⟨#[]⟩,.int .i64 nx] 130)).heap.size=w.heap.size + 1 from by simp] at bx2;have BX2:=Fj bx2;clear bx2;have bw:=bthen ((Wj w.heap.size w).alloc (Hj _) (.cells #[.int .i64 1,.int .i64 id,.int .i64 tr,.int .i64 kk,.int .i64 kn,.string ks,.int .i64 0,.int .i64 0,.string ⟨#[]⟩,.int .i64 nx] 130)) ((Wj _ _).alloc (Hj _) (.cells #[.int .i64 t,.int .i64 b,.int .i64 c] 31));have BW:=Fj bw;clear bw
 go_enter Tryz.func104,Tryz.ntmps104
 go_wp2_with fail
 with_reducible refine (gap_check t b c _ p0 p1 p2 p3 p4).mono ?_
 rintro e w' ⟨rfl,hb⟩;have hx:=BX1.out.keep hb;have hy:=BX2.out.keep hb;have hw:=bthen BW.out hb;clear BX1 BX2 BW hb;have x0:=hx.cells 0 _ rfl;have x1:=hx.cells 1 _ rfl;have x2:=hx.cells 2 _ rfl;have x3:=hx.cells 3 _ rfl;have x4:=hx.cells 4 _ rfl;have x5:=hx.cells 5 _ rfl;have x6:=hx.cells 6 _ rfl;have x7:=hx.cells 7 _ rfl;have x8:=hx.cells 8 _ rfl;have x9:=hx.cells 9 _ rfl;have y0:=hy.cells 0 _ rfl;have y1:=hy.cells 1 _ rfl;have y2:=hy.cells 2 _ rfl
 go_wp2_with fail
 go_quiet (fail)
 go_wp2_with fail
 with_reducible refine (wV kk kn ks _ HK.out).mono ?_
 rintro e w2 ⟨rfl,hb⟩;have hx2:=(hx.drew _).keep hb;have hy2:=(hy.drew _).keep hb;have hw2:=bthen (below_drewN hw _) hb;clear x0 x1 x2 x3 x4 x5 x6 x7 x8 x9 y0 y1 y2;clear hx hy hw hb;have x0:=hx2.cells 0 _ rfl;have x1:=hx2.cells 1 _ rfl;have x2:=hx2.cells 2 _ rfl;have x3:=hx2.cells 3 _ rfl;have x4:=hx2.cells 4 _ rfl;have x5:=hx2.cells 5 _ rfl;have x6:=hx2.cells 6 _ rfl;have x7:=hx2.cells 7 _ rfl;have x8:=hx2.cells 8 _ rfl;have x9:=hx2.cells 9 _ rfl;have y0:=hy2.cells 0 _ rfl;have y1:=hy2.cells 1 _ rfl;have y2:=hy2.cells 2 _ rfl
 go_wp2_with fail
 go_ret
 exact ⟨rfl,hw2⟩
theorem call_check_given (t b c id tr kk kn:Int) (ks:ByteArray) (w:World) (hp:OkPol t b c) (i0:1<=id) (i1:id<=1073741824) (t1:tr=t) (hk:pJ kk kn ks) :
  Calls Tryz.prog 104 #[.agg #[.int .i64 3,.int .i64 id,.int .i64 tr,.int .i64 kk,.int .i64 kn,.string ks,.int .i64 0,.int .i64 0,.string ⟨#[]⟩,.int .i64 0],.agg #[.int .i64 t,.int .i64 b,.int .i64 c]] w (Gives (.int .i64 0) w):=by
 subst t1;obtain ⟨p0,p1,p2,p3,p4⟩:=hp;have HK:=Fj hk;clear hk;have bx1:=(Box.new w #[.int .i64 3,.int .i64 id,.int .i64 tr,.int .i64 kk,.int .i64 kn,.string ks,.int .i64 0,.int .i64 0,.string ⟨#[]⟩,.int .i64 0] 130).alloc (.cells #[.int .i64 tr,.int .i64 b,.int .i64 c] 31);have BX1:=Fj bx1;clear bx1;have bx2:=Box.new (w.alloc (.cells #[.int .i64 3,.int .i64 id,.int .i64 tr,.int .i64 kk,.int .i64 kn,.string ks,.int .i64 0,.int .i64 0,.string ⟨#[]⟩,.int .i64 0] 130)) #[.int .i64 tr,.int .i64 b,.int .i64 c] 31;rw [show (w.alloc (.cells #[.int .i64 3,.int .i64 id,.int .i64 tr,.int .i64 kk,.int .i64 kn,.string ks,.int .i64 0,.int .i64 0,.string ⟨#[]⟩,.int .i64 0] 130)).heap.size=w.heap.size + 1 from by simp] at bx2;have BX2:=Fj bx2;clear bx2;have bw:=bthen ((Wj w.heap.size w).alloc (Hj _) (.cells #[.int .i64 3,.int .i64 id,.int .i64 tr,.int .i64 kk,.int .i64 kn,.string ks,.int .i64 0,.int .i64 0,.string ⟨#[]⟩,.int .i64 0] 130)) ((Wj _ _).alloc (Hj _) (.cells #[.int .i64 tr,.int .i64 b,.int .i64 c] 31));have BW:=Fj bw;clear bw
 go_enter Tryz.func104,Tryz.ntmps104
 go_wp2_with fail
 with_reducible refine (gap_check tr b c _ p0 p1 p2 p3 p4).mono ?_
 rintro e w' ⟨rfl,hb⟩;have hx:=BX1.out.keep hb;have hy:=BX2.out.keep hb;have hw:=bthen BW.out hb;clear BX1 BX2 BW hb;have x0:=hx.cells 0 _ rfl;have x1:=hx.cells 1 _ rfl;have x2:=hx.cells 2 _ rfl;have x3:=hx.cells 3 _ rfl;have x4:=hx.cells 4 _ rfl;have x5:=hx.cells 5 _ rfl;have x6:=hx.cells 6 _ rfl;have x7:=hx.cells 7 _ rfl;have x8:=hx.cells 8 _ rfl;have x9:=hx.cells 9 _ rfl;have y0:=hy.cells 0 _ rfl;have y1:=hy.cells 1 _ rfl;have y2:=hy.cells 2 _ rfl
 go_wp2_with fail
 go_quiet (fail)
 go_wp2_with fail
 with_reducible refine (wV kk kn ks _ HK.out).mono ?_
 rintro e w2 ⟨rfl,hb⟩;have hx2:=(hx.drew _).keep hb;have hy2:=(hy.drew _).keep hb;have hw2:=bthen (below_drewN hw _) hb;clear x0 x1 x2 x3 x4 x5 x6 x7 x8 x9 y0 y1 y2;clear hx hy hw hb;have x0:=hx2.cells 0 _ rfl;have x1:=hx2.cells 1 _ rfl;have x2:=hx2.cells 2 _ rfl;have x3:=hx2.cells 3 _ rfl;have x4:=hx2.cells 4 _ rfl;have x5:=hx2.cells 5 _ rfl;have x6:=hx2.cells 6 _ rfl;have x7:=hx2.cells 7 _ rfl;have x8:=hx2.cells 8 _ rfl;have x9:=hx2.cells 9 _ rfl;have y0:=hy2.cells 0 _ rfl;have y1:=hy2.cells 1 _ rfl;have y2:=hy2.cells 2 _ rfl
 go_wp2_with fail
 go_ret
 exact ⟨rfl,hw2⟩
theorem call_check_known (t b c id tr kk kn hk hn:Int) (ks hs:ByteArray) (w:World) (hp:OkPol t b c) (i0:1<=id) (i1:id<=1073741824) (t0:1<=tr) (t1:tr<=t) (hkey:pJ kk kn ks) (hhas:pJ hk hn hs) :
  Calls Tryz.prog 104 #[.agg #[.int .i64 2,.int .i64 id,.int .i64 tr,.int .i64 kk,.int .i64 kn,.string ks,.int .i64 hk,.int .i64 hn,.string hs,.int .i64 0],.agg #[.int .i64 t,.int .i64 b,.int .i64 c]] w (Gives (.int .i64 0) w):=by
 obtain ⟨p0,p1,p2,p3,p4⟩:=hp;have HK:=Fj hkey;have HH:=Fj hhas;have z0:=known_kind0 hhas;clear hkey hhas;have bx1:=(Box.new w #[.int .i64 2,.int .i64 id,.int .i64 tr,.int .i64 kk,.int .i64 kn,.string ks,.int .i64 hk,.int .i64 hn,.string hs,.int .i64 0] 130).alloc (.cells #[.int .i64 t,.int .i64 b,.int .i64 c] 31);have BX1:=Fj bx1;clear bx1;have bx2:=Box.new (w.alloc (.cells #[.int .i64 2,.int .i64 id,.int .i64 tr,.int .i64 kk,.int .i64 kn,.string ks,.int .i64 hk,.int .i64 hn,.string hs,.int .i64 0] 130)) #[.int .i64 t,.int .i64 b,.int .i64 c] 31;rw [show (w.alloc (.cells #[.int .i64 2,.int .i64 id,.int .i64 tr,.int .i64 kk,.int .i64 kn,.string ks,.int .i64 hk,.int .i64 hn,.string hs,.int .i64 0] 130)).heap.size=w.heap.size + 1 from by simp] at bx2;have BX2:=Fj bx2;clear bx2;have bw:=bthen ((Wj w.heap.size w).alloc (Hj _) (.cells #[.int .i64 2,.int .i64 id,.int .i64 tr,.int .i64 kk,.int .i64 kn,.string ks,.int .i64 hk,.int .i64 hn,.string hs,.int .i64 0] 130)) ((Wj _ _).alloc (Hj _) (.cells #[.int .i64 t,.int .i64 b,.int .i64 c] 31));have BW:=Fj bw;clear bw
 go_enter Tryz.func104,Tryz.ntmps104
 go_wp2_with fail
 with_reducible refine (gap_check t b c _ p0 p1 p2 p3 p4).mono ?_
 rintro e w' ⟨rfl,hb⟩;have hx:=BX1.out.keep hb;have hy:=BX2.out.keep hb;have hw:=bthen BW.out hb;clear BX1 BX2 BW hb;have x0:=hx.cells 0 _ rfl;have x1:=hx.cells 1 _ rfl;have x2:=hx.cells 2 _ rfl;have x3:=hx.cells 3 _ rfl;have x4:=hx.cells 4 _ rfl;have x5:=hx.cells 5 _ rfl;have x6:=hx.cells 6 _ rfl;have x7:=hx.cells 7 _ rfl;have x8:=hx.cells 8 _ rfl;have x9:=hx.cells 9 _ rfl;have y0:=hy.cells 0 _ rfl;have y1:=hy.cells 1 _ rfl;have y2:=hy.cells 2 _ rfl
 go_wp2_with fail
 go_quiet (fail)
 go_wp2_with fail
 with_reducible refine (wV kk kn ks _ HK.out).mono ?_
 rintro e w2 ⟨rfl,hb⟩;have hx2:=(hx.drew _).keep hb;have hy2:=(hy.drew _).keep hb;have hw2:=bthen (below_drewN hw _) hb;clear x0 x1 x2 x3 x4 x5 x6 x7 x8 x9 y0 y1 y2;clear hx hy hw hb;have x0:=hx2.cells 0 _ rfl;have x1:=hx2.cells 1 _ rfl;have x2:=hx2.cells 2 _ rfl;have x3:=hx2.cells 3 _ rfl;have x4:=hx2.cells 4 _ rfl;have x5:=hx2.cells 5 _ rfl;have x6:=hx2.cells 6 _ rfl;have x7:=hx2.cells 7 _ rfl;have x8:=hx2.cells 8 _ rfl;have x9:=hx2.cells 9 _ rfl;have y0:=hy2.cells 0 _ rfl;have y1:=hy2.cells 1 _ rfl;have y2:=hy2.cells 2 _ rfl
 go_wp2_with fail
 with_reducible refine (wV hk hn hs _ HH.out).mono ?_
 rintro e w3 ⟨rfl,hb⟩;have hx3:=hx2.keep hb;have hy3:=hy2.keep hb;have hw3:=bthen hw2 hb;clear x0 x1 x2 x3 x4 x5 x6 x7 x8 x9 y0 y1 y2;clear hx2 hy2 hw2 hb;have x0:=hx3.cells 0 _ rfl;have x1:=hx3.cells 1 _ rfl;have x2:=hx3.cells 2 _ rfl;have x3:=hx3.cells 3 _ rfl;have x4:=hx3.cells 4 _ rfl;have x5:=hx3.cells 5 _ rfl;have x6:=hx3.cells 6 _ rfl;have x7:=hx3.cells 7 _ rfl;have x8:=hx3.cells 8 _ rfl;have x9:=hx3.cells 9 _ rfl;have y0:=hy3.cells 0 _ rfl;have y1:=hy3.cells 1 _ rfl;have y2:=hy3.cells 2 _ rfl
 go_wp2_with fail
 go_ret
 exact ⟨rfl,hw3⟩
theorem gap_one (t b c:Int) (w:World) (h0:1<=t) (h1:t<=6) (h2:1<=b) (h3:b<=c) (h4:c<=1000) :
  Calls Tryz.prog 105 #[.agg #[.int .i64 t,.int .i64 b,.int .i64 c],.int .i64 1] w (Gives (.tuple #[.int .i64 b,.int .i64 0]) w):=by
 have h:=gap_of t b c 1 w h0 h1 h2 h3 h4 (by omega) (by omega);have e:gapV b c 1=b:=by simp [gapV,h3]
 rw [e] at h;exact h
set_option maxRecDepth 100000 in
theorem call_start (t b c id kk kn now:Int) (ks:ByteArray) (w:World) (hp:OkPol t b c) (i0:1<=id) (i1:id<=1073741824) (n0:0<=now) (n1:now<=1073741824) (hk:pJ kk kn ks) :
  Calls Tryz.prog 227 #[.agg #[.int .i64 t,.int .i64 b,.int .i64 c],.int .i64 id,.agg #[.int .i64 kk,.int .i64 kn,.string ks],.int .i64 now] w (Gives (.tuple #[.agg #[.int .i64 1,.int .i64 id,.int .i64 1,.int .i64 kk,.int .i64 kn,.string ks,.int .i64 0,.int .i64 0,.string ⟨#[]⟩,.int .i64 (now + b)],.int .i64 0]) w):=by
 obtain ⟨p0,p1,p2,p3,p4⟩:=hp;have HK:=Fj hk;clear hk;have bx1:=((Box.new w #[.int .i64 t,.int .i64 b,.int .i64 c] 31).alloc (.cells #[.int .i64 kk,.int .i64 kn,.string ks] 44)).alloc (.cells #[.int .i64 0,.int .i64 0,.int .i64 0,.int .i64 0,.int .i64 0,.string ⟨#[]⟩,.int .i64 0,.int .i64 0,.string ⟨#[]⟩,.int .i64 0] 130);have BX1:=Fj bx1;clear bx1;have bx2:=(Box.new (w.alloc (.cells #[.int .i64 t,.int .i64 b,.int .i64 c] 31)) #[.int .i64 kk,.int .i64 kn,.string ks] 44).alloc (.cells #[.int .i64 0,.int .i64 0,.int .i64 0,.int .i64 0,.int .i64 0,.string ⟨#[]⟩,.int .i64 0,.int .i64 0,.string ⟨#[]⟩,.int .i64 0] 130);rw [show (w.alloc (.cells #[.int .i64 t,.int .i64 b,.int .i64 c] 31)).heap.size=w.heap.size + 1 from by simp] at bx2;have BX2:=Fj bx2;clear bx2;have bx3:=Box.new ((w.alloc (.cells #[.int .i64 t,.int .i64 b,.int .i64 c] 31)).alloc (.cells #[.int .i64 kk,.int .i64 kn,.string ks] 44)) #[.int .i64 0,.int .i64 0,.int .i64 0,.int .i64 0,.int .i64 0,.string ⟨#[]⟩,.int .i64 0,.int .i64 0,.string ⟨#[]⟩,.int .i64 0] 130;rw [show ((w.alloc (.cells #[.int .i64 t,.int .i64 b,.int .i64 c] 31)).alloc (.cells #[.int .i64 kk,.int .i64 kn,.string ks] 44)).heap.size=w.heap.size + 1 + 1 from by simp] at bx3;have BX3:=Fj bx3;clear bx3;have bw:=bthen (bthen ((Wj w.heap.size w).alloc (Hj _) (.cells #[.int .i64 t,.int .i64 b,.int .i64 c] 31)) ((Wj _ _).alloc (Hj _) (.cells #[.int .i64 kk,.int .i64 kn,.string ks] 44))) ((Wj _ _).alloc (Hj _) (.cells #[.int .i64 0,.int .i64 0,.int .i64 0,.int .i64 0,.int .i64 0,.string ⟨#[]⟩,.int .i64 0,.int .i64 0,.string ⟨#[]⟩,.int .i64 0] 130));have BW:=Fj bw;clear bw
 go_enter Tryz.func227,Tryz.ntmps227
 go_wp2_with fail
 with_reducible refine (gap_check t b c _ p0 p1 p2 p3 p4).mono ?_
 rintro e w' ⟨rfl,hb⟩;have hx:=BX1.out.keep hb;have hy:=BX2.out.keep hb;have hz:=BX3.out.keep hb;have hw:=bthen BW.out hb;clear BX1 BX2 BX3 BW hb;have y0:=hy.cells 0 _ rfl;have y1:=hy.cells 1 _ rfl;have y2:=hy.cells 2 _ rfl
 go_wp2_with fail
 with_reducible refine (wV kk kn ks _ HK.out).mono ?_
 rintro e w2 ⟨rfl,hb⟩;replace hx:=hx.keep hb;replace hy:=hy.keep hb;replace hz:=hz.keep hb;replace hw:=bthen hw hb;clear y0 y1 y2;clear hb;have x0:=hx.cells 0 _ rfl;have x1:=hx.cells 1 _ rfl;have x2:=hx.cells 2 _ rfl
 go_wp2_with fail
 with_reducible refine (gap_one t b c _ p0 p1 p2 p3 p4).mono ?_
 rintro e w3 ⟨rfl,hb⟩;replace hx:=hx.keep hb;replace hy:=hy.keep hb;replace hz:=hz.keep hb;replace hw:=bthen hw hb;clear x0 x1 x2;clear hb;have y0:=hy.cells 0 _ rfl;have y1:=hy.cells 1 _ rfl;have y2:=hy.cells 2 _ rfl;have z0:=hz.cells 0 _ rfl;have z1:=hz.cells 1 _ rfl;have z2:=hz.cells 2 _ rfl;have z3:=hz.cells 3 _ rfl;have z4:=hz.cells 4 _ rfl;have z5:=hz.cells 5 _ rfl;have z6:=hz.cells 6 _ rfl;have z7:=hz.cells 7 _ rfl;have z8:=hz.cells 8 _ rfl;have z9:=hz.cells 9 _ rfl;have f0:=hz.free 0;have f1:=hz.free 1;have f2:=hz.free 2;have f3:=hz.free 3;have f4:=hz.free 4;have f5:=hz.free 5;have f6:=hz.free 6;have f7:=hz.free 7;have f8:=hz.free 8;have f9:=hz.free 9
 go_wp2_with fail
 refine bodyPost_ret (v:=.tuple #[.agg #[.int .i64 1,.int .i64 id,.int .i64 1,.int .i64 kk,.int .i64 kn,.string ks,.int .i64 0,.int .i64 0,.string ⟨#[]⟩,.int .i64 (now + b)],.int .i64 0]) (by simp [results,Tryz.results227,go_sem,z0,z1,z2,z3,z4,z5,z6,z7,z8,z9]) rfl (gives_mk rfl ?_)
 repeat (first | with_reducible refine Below.drew ?_ | with_reducible refine Below.setCell ?_ (by first | (simp; done) | (simp; omega)) _)
 exact hw
end Go.Proofs.YthgcgciceejicaaGreatDoor
