/-
  Plain laws of the order of numbers and of strings of bytes; no program in sight. Contracts of package value, as far as the values of a type go, and of the law's own clean and Value.
-/
import Derived.Test.YthgcgciceejicaaGreatDoorZT11
import Derived.Test.YthgcgciceejicaaGreatDoorZT0
set_option maxHeartbeats 400000
namespace Go.Proofs.YthgcgciceejicaaGreatDoor
def cmpI (a b:Int):Int:=if a < b then -1 else if b < a then 1 else 0
def cmpL (x y:List UInt8):Int:=if Op.bytesLess x y=true then -1 else if x=y then 0 else 1
def orI (a b:Int):Int:=if a=0 then b else a
def cmpV (n m:Int) (x y:List UInt8):Int:=orI (cmpI n m) (cmpL x y)
open Go.RowKit
def pJ (k n:Int) (s:ByteArray):Prop :=
 (k=1/\Lim n/\s=⟨#[]⟩)\/(k=2/\(n=0\/n=1)/\s=⟨#[]⟩)\/(k=3/\n=0/\s.size<=40/\∀ i (h:i < s.size),32<=s[i].toNat/\s[i].toNat<=126)
theorem check_text (s:ByteArray) (w:World) (hs:s.size<=40) (hc:∀ i (h:i < s.size),32<=s[i].toNat/\s[i].toNat<=126) :
  Calls Tryz.prog 130 #[.string s] w λe w'=>e=.returned (.int .i64 0)/\w=w':=by
 have HC:=Fj hc;clear hc
 go_enter Tryz.func130,Tryz.ntmps130
 go_wp2
 go_loop [9] (λi=>∃ k:Nat,k<=s.size/\i=.int .i64 k) (λi=>s.size - (intOf i).toNat)
 case atStart=>exact ⟨0,Mj _,rfl⟩
 case round =>
  obtain ⟨k,hk,rfl⟩:=hrel
  by_cases hlt:k < s.size
  ·obtain ⟨b0,b1⟩:=HC.out k hlt;have c0:(32:Int)<=(s[k].toNat:Int):=by omega
   have c1:(s[k].toNat:Int)<=126:=by omega
   clear b0 b1
   go_wp2
   go_round
   case rel=>exact ⟨k + 1,by omega,by go_num⟩
   case measure=>simp [intOf]; omega
  ·go_wp2
   go_ret
   exact ⟨rfl,rfl⟩
theorem value_check_int (n:Int) (w:World) (h:Lim n) :
  Calls Tryz.prog 85 #[.agg #[.int .i64 1,.int .i64 n,.string ⟨#[]⟩]] w (Gives (.int .i64 0) w):=by
 obtain ⟨h0,h1⟩:=h
 go_enter Tryz.func85,Tryz.ntmps85
 go_wp2_with fail
 with_reducible refine (bK n _ h0 h1).mono ?_
 rintro e w' ⟨rfl,rfl⟩
 go_wp2_with fail
 go_ret
 exact ⟨rfl,(Wj _ _).alloc (Hj _) _⟩
theorem value_check_bool (n:Int) (w:World) (h:n=0\/n=1) :
  Calls Tryz.prog 85 #[.agg #[.int .i64 2,.int .i64 n,.string ⟨#[]⟩]] w (Gives (.int .i64 0) w):=by
 rcases h with rfl | rfl
 all_goals
  go_enter Tryz.func85,Tryz.ntmps85
  go_wp2_with fail
  go_ret
  exact ⟨rfl,(Wj _ _).alloc (Hj _) _⟩
theorem value_check_text (s:ByteArray) (w:World) (hs:s.size<=40) (hc:∀ i (h:i < s.size),32<=s[i].toNat/\s[i].toNat<=126) :
  Calls Tryz.prog 85 #[.agg #[.int .i64 3,.int .i64 0,.string s]] w (Gives (.int .i64 0) w):=by
 have HC:=Fj hc;clear hc
 go_enter Tryz.func85,Tryz.ntmps85
 go_wp2_with fail
 with_reducible refine (check_text s _ hs HC.out).mono ?_
 rintro e w' ⟨rfl,rfl⟩
 go_wp2_with fail
 go_ret
 exact ⟨rfl,(Wj _ _).alloc (Hj _) _⟩
theorem value_check (k n:Int) (s:ByteArray) (w:World) (h:pJ k n s) :
  Calls Tryz.prog 85 #[.agg #[.int .i64 k,.int .i64 n,.string s]] w (Gives (.int .i64 0) w):=by
 rcases h with ⟨rfl,h,rfl⟩ | ⟨rfl,h,rfl⟩ | ⟨rfl,rfl,h,g⟩
 ·exact value_check_int n w h
 ·exact value_check_bool n w h
 ·exact value_check_text s w h g
theorem known_kind {k n:Int} {s:ByteArray} (h:pJ k n s):1<=k/\k<=3:=by
 rcases h with ⟨rfl,_⟩ | ⟨rfl,_⟩ | ⟨rfl,_⟩ <;> omega
theorem wV (k n:Int) (s:ByteArray) (w:World) (h:pJ k n s) :
  Calls Tryz.prog 60 #[.agg #[.int .i64 k,.int .i64 n,.string s]] w (Gives (.bool true) w):=by
 have H:=Fj h;obtain ⟨k0,k1⟩:=known_kind h;clear h
 go_enter Tryz.func60,Tryz.ntmps60
 go_wp2_with fail
 with_reducible refine (value_check k n s _ H.out).mono ?_
 rintro e w' ⟨rfl,hb⟩
 go_wp2_with fail
 go_ret
 exact ⟨rfl,below_box hb⟩
theorem cmp_int (a b:Int) (w:World):Calls Tryz.prog 113 #[.int .i64 a,.int .i64 b] w λe w'=>e=.returned (.int .i64 (cmpI a b))/\w=w':=by
 by_cases h:a < b
 ·have E:Hid (cmpI a b = -1):=by show _=_; rw [cmpI,Cj h]
  go_enter Tryz.func113,Tryz.ntmps113
  go_wp2
  go_ret
  exact ⟨dY (by rw [E.out]),rfl⟩
 ·by_cases g:b < a
  ·have E:Hid (cmpI a b=1):=by show _=_; rw [cmpI,Bj h,Cj g]
   go_enter Tryz.func113,Tryz.ntmps113
   go_wp2
   go_ret
   exact ⟨dY (by rw [E.out]),rfl⟩
  ·have E:Hid (cmpI a b=0):=by show _=_; rw [cmpI,Bj h,Bj g]
   go_enter Tryz.func113,Tryz.ntmps113
   go_wp2
   go_ret
   exact ⟨dY (by rw [E.out]),rfl⟩
end Go.Proofs.YthgcgciceejicaaGreatDoor
