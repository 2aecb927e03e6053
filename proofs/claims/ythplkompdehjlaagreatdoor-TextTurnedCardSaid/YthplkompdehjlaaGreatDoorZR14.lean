/-
  Plain laws of the order of numbers and of strings of bytes; no program in sight. Contracts of package value, as far as the values of a type go, and of the law's own clean and Value.
-/
import GoSem.Op.String
import Derived.Test.YthplkompdehjlaaGreatDoorZR13
import Derived.Test.YthplkompdehjlaaGreatDoorZR0
namespace Go.Proofs.YthplkompdehjlaaGreatDoor
def cmpI (a b:Int):Int:=if a < b then -1 else if b < a then 1 else 0
def cmpL (x y:List UInt8):Int:=if Op.bytesLess x y=true then -1 else if x=y then 0 else 1
def orI (a b:Int):Int:=if a=0 then b else a
def cmpV (n m:Int) (x y:List UInt8):Int:=orI (cmpI n m) (cmpL x y)
end Go.Proofs.YthplkompdehjlaaGreatDoor
namespace Go.Proofs.YthplkompdehjlaaGreatDoor
open Go.RowKit
def KnownV (k n:Int) (s:ByteArray):Prop :=
 (k=1∧Lim n∧s=⟨#[]⟩)∨(k=2∧(n=0∨n=1)∧s=⟨#[]⟩)∨(k=3∧n=0∧s.size≤40∧∀ i (h:i < s.size),32≤s[i].toNat∧s[i].toNat≤126)
set_option maxHeartbeats 400000 in
theorem check_text (s:ByteArray) (w:World) (hs:s.size≤40) (hc:∀ i (h:i < s.size),32≤s[i].toNat∧s[i].toNat≤126) :
  Calls Tryz.prog 117 #[.string s] w fun e w'=>e=.returned (.int .i64 0)∧w=w':=by
 have HC:=Lib.hid hc
 clear hc
 go_enter Tryz.func117,Tryz.ntmps117
 go_wp2
 go_loop [9] (fun i=>∃ k:Nat,k≤s.size∧i=.int .i64 k) (fun i=>s.size - (intOf i).toNat)
 case atStart=>exact ⟨0,Nat.zero_le _,rfl⟩
 case round =>
  obtain ⟨k,hk,rfl⟩:=hrel
  by_cases hlt:k < s.size
  ·obtain ⟨b0,b1⟩:=HC.out k hlt
   have c0:(32:Int)≤(s[k].toNat:Int):=by omega
   have c1:(s[k].toNat:Int)≤126:=by omega
   clear b0 b1
   go_wp2
   go_round
   case rel=>exact ⟨k + 1,by omega,by go_num⟩
   case measure=>simp [intOf]; omega
  ·go_wp2
   go_ret
   exact ⟨rfl,rfl⟩
set_option maxHeartbeats 400000 in
theorem value_check_int (n:Int) (w:World) (h:Lim n) :
  Calls Tryz.prog 81 #[.agg #[.int .i64 1,.int .i64 n,.string ⟨#[]⟩]] w (Gives (.int .i64 0) w):=by
 obtain ⟨h0,h1⟩:=h
 go_enter Tryz.func81,Tryz.ntmps81
 go_wp2_with fail
 with_reducible refine (check_ok n _ h0 h1).mono ?_
 rintro e w' ⟨rfl,rfl⟩
 go_wp2_with fail
 go_ret
 exact ⟨rfl,(Below.refl _ _).alloc (Nat.le_refl _) _⟩
set_option maxHeartbeats 400000 in
theorem value_check_bool (n:Int) (w:World) (h:n=0∨n=1) :
  Calls Tryz.prog 81 #[.agg #[.int .i64 2,.int .i64 n,.string ⟨#[]⟩]] w (Gives (.int .i64 0) w):=by
 rcases h with rfl | rfl
 all_goals
  go_enter Tryz.func81,Tryz.ntmps81
  go_wp2_with fail
  go_ret
  exact ⟨rfl,(Below.refl _ _).alloc (Nat.le_refl _) _⟩
set_option maxHeartbeats 400000 in
theorem value_check_text (s:ByteArray) (w:World) (hs:s.size≤40) (hc:∀ i (h:i < s.size),32≤s[i].toNat∧s[i].toNat≤126) :
  Calls Tryz.prog 81 #[.agg #[.int .i64 3,.int .i64 0,.string s]] w (Gives (.int .i64 0) w):=by
 have HC:=Lib.hid hc
 clear hc
 go_enter Tryz.func81,Tryz.ntmps81
 go_wp2_with fail
 with_reducible refine (check_text s _ hs HC.out).mono ?_
 rintro e w' ⟨rfl,rfl⟩
 go_wp2_with fail
 go_ret
 exact ⟨rfl,(Below.refl _ _).alloc (Nat.le_refl _) _⟩
theorem value_check (k n:Int) (s:ByteArray) (w:World) (h:KnownV k n s) :
  Calls Tryz.prog 81 #[.agg #[.int .i64 k,.int .i64 n,.string s]] w (Gives (.int .i64 0) w):=by
 rcases h with ⟨rfl,h,rfl⟩ | ⟨rfl,h,rfl⟩ | ⟨rfl,rfl,h,g⟩
 ·exact value_check_int n w h
 ·exact value_check_bool n w h
 ·exact value_check_text s w h g
theorem known_kind {k n:Int} {s:ByteArray} (h:KnownV k n s):1≤k∧k≤3:=by
 rcases h with ⟨rfl,_⟩ | ⟨rfl,_⟩ | ⟨rfl,_⟩ <;> omega
set_option maxHeartbeats 400000 in
theorem known_true (k n:Int) (s:ByteArray) (w:World) (h:KnownV k n s) :
  Calls Tryz.prog 115 #[.agg #[.int .i64 k,.int .i64 n,.string s]] w (Gives (.bool true) w):=by
 have H:=Lib.hid h
 obtain ⟨k0,k1⟩:=known_kind h
 clear h
 go_enter Tryz.func115,Tryz.ntmps115
 go_wp2_with fail
 with_reducible refine (value_check k n s _ H.out).mono ?_
 rintro e w' ⟨rfl,hb⟩
 go_wp2_with fail
 go_ret
 exact ⟨rfl,below_box hb⟩
end Go.Proofs.YthplkompdehjlaaGreatDoor
