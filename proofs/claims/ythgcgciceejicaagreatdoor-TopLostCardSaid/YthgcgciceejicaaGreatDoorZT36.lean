/-
  Contracts of value.Compare, and of the law's own clean and Value.
-/
import Derived.Test.YthgcgciceejicaaGreatDoorZT35
set_option maxHeartbeats 1000000
namespace Go.Proofs.YthgcgciceejicaaGreatDoor
open Go.RowKit
theorem cmp_str (a b:ByteArray) (w:World):Calls Tryz.prog 229 #[.string a,.string b] w λe w'=>e=.returned (.int .i64 (cmpL a.toList b.toList))/\w=w':=by
 by_cases h:Op.bytesLess a.toList b.toList=true
 ·have E:Hid (cmpL a.toList b.toList = -1):=by show _=_; rw [cmpL,Cj h]
  go_enter Tryz.func229,Tryz.ntmps229
  go_wp2
  go_ret
  exact ⟨dY (by rw [E.out]),rfl⟩
 ·have h':Op.bytesLess a.toList b.toList=false:=by simpa using h
  by_cases g:a.toList=b.toList
  ·have E:Hid (cmpL a.toList b.toList=0):=by show _=_; rw [cmpL,Bj h,Cj g]
   have g':(a.toList == b.toList)=true:=Xj.2 g;clear g h
   go_enter Tryz.func229,Tryz.ntmps229
   go_wp2
   go_ret
   exact ⟨dY (by rw [E.out]),rfl⟩
  ·have E:Hid (cmpL a.toList b.toList=1):=by show _=_; rw [cmpL,Bj h,Bj g]
   have g':(a.toList == b.toList)=false:=Lj.2 g;clear g h
   go_enter Tryz.func229,Tryz.ntmps229
   go_wp2
   go_ret
   exact ⟨dY (by rw [E.out]),rfl⟩
theorem compare_known (k n m:Int) (s t:ByteArray) (w:World) (ha:pJ k n s) (hb:pJ k m t) :
  Calls Tryz.prog 196 #[.agg #[.int .i64 k,.int .i64 n,.string s],.agg #[.int .i64 k,.int .i64 m,.string t]] w (Gives (.tuple #[.int .i64 (cmpV n m s.toList t.toList),.int .i64 0]) w):=by
 have HA:=Fj ha;have HB:=Fj hb;clear ha hb;have hx:=(Box.new w #[.int .i64 k,.int .i64 n,.string s] 44).alloc (.cells #[.int .i64 k,.int .i64 m,.string t] 44);have hy:=Box.new (w.alloc (.cells #[.int .i64 k,.int .i64 n,.string s] 44)) #[.int .i64 k,.int .i64 m,.string t] 44;have hbw:Below w.heap.size w ((w.alloc (.cells #[.int .i64 k,.int .i64 n,.string s] 44)).alloc (.cells #[.int .i64 k,.int .i64 m,.string t] 44)):=((Wj _ _).alloc (Hj _) _).alloc (by simp) _;have HX:=Fj hx;have HY:=Fj hy;have HW:=Fj hbw;clear hx hy hbw
 go_enter Tryz.func196,Tryz.ntmps196
 go_wp2_with fail
 with_reducible refine (wV k n s _ HA.out).mono ?_
 rintro e w' ⟨rfl,h1⟩;have hx1:=HX.out.keep h1;have hy1:=HY.out.keep h1;have hw1:=bthen HW.out h1;have hsz1:w.heap.size<=w'.heap.size:=hw1.size;clear HX HY HW h1;have y0:=hy1.cells 0 _ rfl;have y1:=hy1.cells 1 _ rfl;have y2:=hy1.cells 2 _ rfl;simp at y0 y1 y2
 go_wp2_with fail
 with_reducible refine (wV k m t _ HB.out).mono ?_
 rintro e w2 ⟨rfl,h2⟩;have hx2:=hx1.keep h2;have hy2:=hy1.keep h2;have hw2:=bthen hw1 h2;have hsz2:w.heap.size<=w2.heap.size:=hw2.size;clear hx1 hy1 hw1 h2 y0 y1 y2;have x0:=hx2.cells 0 _ rfl;have x1:=hx2.cells 1 _ rfl;have x2:=hx2.cells 2 _ rfl;have y0:=hy2.cells 0 _ rfl;have y1:=hy2.cells 1 _ rfl;have y2:=hy2.cells 2 _ rfl;simp at y0 y1 y2
 go_wp2_with fail
 go_region_held3 (λw'=>w'.cell? ⟨w.heap.size,1,none⟩=some (.int .i64 n)/\w'.cell? ⟨w.heap.size,2,none⟩=some (.string s) /\
   w'.cell? ⟨w.heap.size + 1,1,none⟩=some (.int .i64 m)/\w'.cell? ⟨w.heap.size + 1,2,none⟩=some (.string t)) (go_keep)
  (first
   | (go_at_call 113; refine (cmp_int n m _).mono ?_; rintro e w' ⟨rfl,rfl⟩)
   | (go_at_call 229; refine (cmp_str s t _).mono ?_; rintro e w' ⟨rfl,rfl⟩)
   | (go_at_call 228; refine (cmp_or (cmpI n m) (cmpL s.toList t.toList) _ _ (new2a w2 _ _ _) (new2b w2 _ _ _)).mono ?_; rintro e w' ⟨rfl,rfl⟩))
 go_wp2_with fail
 go_ret2
 exact ⟨rfl,bthen hw2 (((Wj _ _).alloc (Hj _) _).drew)⟩
end Go.Proofs.YthgcgciceejicaaGreatDoor
