/-
  Contracts of package lex, second part: number.
-/
import Derived.Test.YthgcgciceejicaaGreatDoorZT16
import Derived.Test.YthgcgciceejicaaGreatDoorZT2
import Derived.StillTailTactics
import Derived.Lib.Slices
namespace Go.Proofs.YthgcgciceejicaaGreatDoor
open Go.RowKit
theorem word_any (c:UInt8) (w:World):Calls Tryz.prog 264 #[.int .u8 c.toNat] w λe w'=>e=.returned (.bool (sV c))/\w=w':=by
 cases h:isLet c with
 | true =>
  have e:Hid (true=sV c):=by show _=_; simp [sV,h]
  have hc:=letter_any c;rw [h] at hc;have HC:=Fj hc;clear hc h
  go_enter Tryz.func264,Tryz.ntmps264
  go_wp2_with fail
  with_reducible refine (HC.out _).mono ?_
  rintro e w' ⟨rfl,rfl⟩
  go_wp2_with fail
  go_ret
  exact ⟨ret_bool e.out,rfl⟩
 | false =>
  have e:Hid (isDig c=sV c):=by show _=_; simp [sV,h]
  have hc:=letter_any c;rw [h] at hc;have HC:=Fj hc;clear hc h
  go_enter Tryz.func264,Tryz.ntmps264
  go_wp2_with fail
  with_reducible refine (HC.out _).mono ?_
  rintro e w' ⟨rfl,rfl⟩
  go_wp2_with fail
  with_reducible refine (digit_any c _).mono ?_
  rintro e w' ⟨rfl,rfl⟩
  go_wp2_with fail
  go_ret
  exact ⟨ret_bool e.out,rfl⟩
@[reducible] def tokC (t:Tok) (a:Int):Value:=.agg #[.int .i64 t.kd,.int .i64 a,.string ⟨t.s.toArray⟩,.int .i64 t.vk,.int .i64 t.vn,.string ⟨t.vs.toArray⟩]
def oneRV:OneR->Value
 | .tok t=>.tuple #[tokC t 0,.int .i64 0]
 | .err e=>.tuple #[.agg #[.int .i64 0,.int .i64 0,.string ⟨#[]⟩,.int .i64 0,.int .i64 0,.string ⟨#[]⟩],.int .i64 e]
set_option maxHeartbeats 1000000 in
theorem hasPrefix_any (s p:ByteArray) (w:World) :
  Calls Tryz.prog 266 #[.string s,.string p] w λe w'=>e=.returned (.bool (p.data.toList.isPrefixOf s.data.toList))/\w=w':=by
 show Calls Tryz.prog 266 #[.string s,.string p] w λe w'=>e=.returned (.bool (Lib.hasPrefix s.data.toList p.data.toList))/\w=w';rw [<- Lib.hasPrefix_of_take,<- Lib.size_eq,<- Lib.size_eq]
 go_enter Tryz.func266,Tryz.ntmps266
 go_wp2
 ·rename_i h
  go_ret
  refine ⟨?_,rfl⟩;show Ending.returned (Value.bool ((s.extract 0 p.size).toList == p.toList))=_;rw [Lib.extract_toList,Lib.toList_data];simp [h]
 ·rename_i h
  go_ret
  refine ⟨?_,rfl⟩;show Ending.returned (Value.bool false)=_;simp [h]
section
variable {l:List UInt8} {c:UInt8}
end
end Go.Proofs.YthgcgciceejicaaGreatDoor
