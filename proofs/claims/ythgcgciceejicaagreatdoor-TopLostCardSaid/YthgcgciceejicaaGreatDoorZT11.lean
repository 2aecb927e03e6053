/-
  Contracts of the law's own picked, of num.Check; the limits of a number.
-/
import Derived.Test.YthgcgciceejicaaGreatDoorRows
import Derived.WalkSpells
import Derived.WalkLawsBesides
import Derived.Lib.Hide
set_option maxHeartbeats 400000
namespace Go.Proofs.YthgcgciceejicaaGreatDoor
open Go.RowKit
theorem dY {k:IntKind} {a b:Int} (h:a=b):Ending.returned (.int k a)=.returned (.int k b):=by rw [h]
def cJ (n many:Int):Int:=if n < 0 then (-(n + 1)) % many else n % many
theorem sX (n many:Int) (h:1<=many):0<=cJ n many:=by
 unfold cJ; split <;> exact Int.emod_nonneg _ (by omega)
theorem rX (n many:Int) (h:1<=many):cJ n many < many:=by
 unfold cJ; split <;> exact Int.emod_lt_of_pos _ (by omega)
theorem picked_any (n many:Int) (w:World) (h0 : -9223372036854775808<=n) (h1:n<=9223372036854775807) (hm:1<=many) (hm':many<=9223372036854775807) :
  Calls Tryz.prog 37 #[.int .i64 n,.int .i64 many] w λe w'=>e=.returned (.int .i64 (cJ n many))/\w=w':=by
 by_cases hn:n < 0
 ·have hr:Hid (cJ n many=(-(n + 1)) % many):=by unfold cJ; rw [if_pos hn]; rfl
  go_enter Tryz.func37,Tryz.ntmps37
  go_wp2
  go_ret
  exact ⟨dY (by rw [hr.out,<- Int.neg_tmod,Int.tmod_eq_emod_of_nonneg (by omega)]),rfl⟩
 ·have hr:Hid (cJ n many=n % many):=by unfold cJ; rw [if_neg hn]; rfl
  go_enter Tryz.func37,Tryz.ntmps37
  go_wp2
  go_ret
  exact ⟨dY (by rw [hr.out]),rfl⟩
def Lim (n:Int):Prop := -1099511627776<=n/\n<=1099511627776
theorem bK (n:Int) (w:World) (h0 : -1099511627776<=n) (h1:n<=1099511627776) :
  Calls Tryz.prog 129 #[.int .i64 n] w λe w'=>e=.returned (.int .i64 0)/\w=w':=by
 go_enter Tryz.func129,Tryz.ntmps129
 go_wp2
 go_ret
 exact ⟨rfl,rfl⟩
theorem check_over (n:Int) (w:World) (h:n < -1099511627776\/1099511627776 < n) :
  Calls Tryz.prog 129 #[.int .i64 n] w λe w'=>e=.returned (.int .i64 7)/\w=w':=by
 by_cases h0:n < -1099511627776
 ·clear h
  go_enter Tryz.func129,Tryz.ntmps129
  go_wp2
  go_ret
  exact ⟨rfl,rfl⟩
 ·have h1:1099511627776 < n:=by omega
  clear h
  go_enter Tryz.func129,Tryz.ntmps129
  go_wp2
  go_ret
  exact ⟨rfl,rfl⟩
end Go.Proofs.YthgcgciceejicaaGreatDoor
