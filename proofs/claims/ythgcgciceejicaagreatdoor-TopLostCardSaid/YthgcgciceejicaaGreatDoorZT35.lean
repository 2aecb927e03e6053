/-
  cmp.Or of two numbers; two cells made just now.
-/
import Derived.Test.YthgcgciceejicaaGreatDoorZT12
import Derived.Test.YthgcgciceejicaaGreatDoorZT9
import Derived.Deep.RegionHeld3
namespace Go.Proofs.YthgcgciceejicaaGreatDoor
open Go.RowKit
theorem cmp_or (a b:Int) (g:Nat) (w:World) (ha:w.cell? ⟨g,0,none⟩=some (.int .i64 a)) (hb:w.cell? ⟨g,1,none⟩=some (.int .i64 b)) :
  Calls Tryz.prog 228 #[.slice (some ⟨g,0,none⟩) 2 2] w λe w'=>e=.returned (.int .i64 (orI a b))/\w=w':=by
 by_cases h:a=0
 ·have h0:(a != 0)=false:=by simp [h]
  have E:Hid (orI a b=b):=by show _=_; rw [orI,Cj h]
  by_cases k:b=0
  ·have k0:(b != 0)=false:=by simp [k]
   have E2:Hid (b=0):=k;clear h k
   go_enter Tryz.func228,Tryz.ntmps228
   go_wp2
   go_loop [8] (λi=>∃ k:Nat,k<=2/\i=.int .i64 k) (λi=>2 - (intOf i).toNat)
   case atStart=>exact ⟨0,by omega,rfl⟩
   case round =>
    obtain ⟨j,hj,rfl⟩:=hrel;obtain rfl | rfl | rfl:j=0\/j=1\/j=2:=by omega
    ·go_wp2
     go_round
     case rel=>exact ⟨1,by omega,rfl⟩
     case measure=>simp [intOf]
    ·go_wp2
     go_round
     case rel=>exact ⟨2,by omega,rfl⟩
     case measure=>simp [intOf]
    ·go_wp2
     go_ret
     exact ⟨dY (by first | rw [E.out,E2.out] | exact E2.out.symm),rfl⟩
  ·have k0:(b != 0)=true:=Hk.2 k;clear h k
   go_enter Tryz.func228,Tryz.ntmps228
   go_wp2
   go_loop [8] (λi=>∃ k:Nat,k<=1/\i=.int .i64 k) (λi=>2 - (intOf i).toNat)
   case atStart=>exact ⟨0,by omega,rfl⟩
   case round =>
    obtain ⟨j,hj,rfl⟩:=hrel;obtain rfl | rfl:j=0\/j=1:=by omega
    ·go_wp2
     go_round
     case rel=>exact ⟨1,by omega,rfl⟩
     case measure=>simp [intOf]
    ·go_wp2
     go_ret
     exact ⟨dY (by rw [E.out]),rfl⟩
 ·have h0:(a != 0)=true:=Hk.2 h;have E:Hid (orI a b=a):=by show _=_; rw [orI,Bj h]
  clear h
  go_enter Tryz.func228,Tryz.ntmps228
  go_wp2
  go_loop [8] (λi=>i=.int .i64 0) (λ_=>0)
  case atStart=>exact rfl
  case round =>
   obtain rfl:=hrel
   go_wp2
   go_ret
   exact ⟨dY (by rw [E.out]),rfl⟩
theorem new2a (w:World) (a b:Value) (t:TypeId):(w.alloc (.cells #[a,b] t)).drew.cell? ⟨w.heap.size,0,none⟩=some a:=by
 show (w.alloc _).cell? _=_;rw [World.cell?_alloc_at _ _ _ _ rfl]; rfl
theorem new2b (w:World) (a b:Value) (t:TypeId):(w.alloc (.cells #[a,b] t)).drew.cell? ⟨w.heap.size,1,none⟩=some b:=by
 show (w.alloc _).cell? _=_;rw [World.cell?_alloc_at _ _ _ _ rfl]; rfl
end Go.Proofs.YthgcgciceejicaaGreatDoor
