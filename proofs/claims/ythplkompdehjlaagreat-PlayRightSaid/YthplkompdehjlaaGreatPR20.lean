/-
  Contracts of package num and of the law's own picked and within, over the given translation; no condition but that the numbers are int64's.
-/
import Derived.Test.YthplkompdehjlaaGreatPR13
set_option maxRecDepth 100000
namespace Go.Proofs.YthplkompdehjlaaGreat
open Go.RowKit
theorem within_ok (f:Nat) (a b n:Int) (w:World) (ha:Lim a) (hb:Lim b) (hn:Lim n)
  (hcf:(callFunc f #[.int .i64 a,.int .i64 b]).run Tryz.prog w=.ok (.enter f #[.int .i64 a,.int .i64 b]) w)
  (hf:Calls Tryz.prog f #[.int .i64 a,.int .i64 b] w λe w'=>e=.returned (.int .i64 n)/\w=w') :
  Calls Tryz.prog 194 #[.int .i64 a,.int .i64 b,.func (.func f) #[] #[]] w λe w'=>e=.returned (.tuple #[.int .i64 n,.int .i64 0])/\w=w':=by
 have HF:=Lib.hid hf;clear hf;obtain ⟨a0,a1⟩:=ha;obtain ⟨b0,b1⟩:=hb;obtain ⟨n0,n1⟩:=hn
 go_enter Tryz.func194,Tryz.ntmps194
 go_wp2_with fail
 refine (dK a w a0 a1).mono ?_;rintro e w' ⟨rfl,rfl⟩
 go_wp2_with fail
 refine (dK b w b0 b1).mono ?_;rintro e w' ⟨rfl,rfl⟩
 go_wp2_with fail
 refine (HF.out).mono ?_;rintro e w' ⟨rfl,rfl⟩
 go_wp2_with fail
 refine (dK n w n0 n1).mono ?_;rintro e w' ⟨rfl,rfl⟩
 go_wp2_with fail
 go_ret2
 exact ⟨rfl,rfl⟩
theorem within_over (f:Nat) (a b n:Int) (w:World) (ha:Lim a) (hb:Lim b) (hn:n < -1099511627776\/1099511627776 < n)
  (hcf:(callFunc f #[.int .i64 a,.int .i64 b]).run Tryz.prog w=.ok (.enter f #[.int .i64 a,.int .i64 b]) w)
  (hf:Calls Tryz.prog f #[.int .i64 a,.int .i64 b] w λe w'=>e=.returned (.int .i64 n)/\w=w') :
  Calls Tryz.prog 194 #[.int .i64 a,.int .i64 b,.func (.func f) #[] #[]] w λe w'=>e=.returned (.tuple #[.int .i64 0,.int .i64 7])/\w=w':=by
 have HF:=Lib.hid hf;have HN:=Lib.hid hn;clear hf hn;obtain ⟨a0,a1⟩:=ha;obtain ⟨b0,b1⟩:=hb
 go_enter Tryz.func194,Tryz.ntmps194
 go_wp2_with fail
 refine (dK a w a0 a1).mono ?_;rintro e w' ⟨rfl,rfl⟩
 go_wp2_with fail
 refine (dK b w b0 b1).mono ?_;rintro e w' ⟨rfl,rfl⟩
 go_wp2_with fail
 refine (HF.out).mono ?_;rintro e w' ⟨rfl,rfl⟩
 go_wp2_with fail
 refine (check_over n w HN.out).mono ?_;rintro e w' ⟨rfl,rfl⟩
 go_wp2_with fail
 go_ret2
 exact ⟨rfl,rfl⟩
theorem add1 (a b:Int) (w:World) (ha:Lim a) (hb:Lim b) :
  Calls Tryz.prog 199 #[.int .i64 a,.int .i64 b] w λe w'=>e=.returned (.int .i64 (a + b))/\w=w':=by
 obtain ⟨a0,a1⟩:=ha;obtain ⟨b0,b1⟩:=hb
 go_enter Tryz.func199,Tryz.ntmps199
 go_wp2
 go_ret
 exact ⟨rfl,rfl⟩
theorem sub1 (a b:Int) (w:World) (ha:Lim a) (hb:Lim b) :
  Calls Tryz.prog 200 #[.int .i64 a,.int .i64 b] w λe w'=>e=.returned (.int .i64 (a - b))/\w=w':=by
 obtain ⟨a0,a1⟩:=ha;obtain ⟨b0,b1⟩:=hb
 go_enter Tryz.func200,Tryz.ntmps200
 go_wp2
 go_ret
 exact ⟨rfl,rfl⟩
theorem add_ok (a b:Int) (w:World) (ha:Lim a) (hb:Lim b) (hn:Lim (a + b)) :
  Calls Tryz.prog 181 #[.int .i64 a,.int .i64 b] w λe w'=>e=.returned (.tuple #[.int .i64 (a + b),.int .i64 0])/\w=w':=by
 have H:=Lib.hid (within_ok 199 a b (a + b) w ha hb hn (by rfl) (add1 a b w ha hb));clear ha hb hn
 go_enter Tryz.func181,Tryz.ntmps181
 go_wp2_with fail
 refine H.out.mono ?_;rintro e w' ⟨rfl,rfl⟩
 go_wp2_with fail
 go_ret2
 exact ⟨rfl,rfl⟩
theorem add_over (a b:Int) (w:World) (ha:Lim a) (hb:Lim b) (hn:a + b < -1099511627776\/1099511627776 < a + b) :
  Calls Tryz.prog 181 #[.int .i64 a,.int .i64 b] w λe w'=>e=.returned (.tuple #[.int .i64 0,.int .i64 7])/\w=w':=by
 have H:=Lib.hid (within_over 199 a b (a + b) w ha hb hn (by rfl) (add1 a b w ha hb));clear ha hb hn
 go_enter Tryz.func181,Tryz.ntmps181
 go_wp2_with fail
 refine H.out.mono ?_;rintro e w' ⟨rfl,rfl⟩
 go_wp2_with fail
 go_ret2
 exact ⟨rfl,rfl⟩
theorem sub_ok (a b:Int) (w:World) (ha:Lim a) (hb:Lim b) (hn:Lim (a - b)) :
  Calls Tryz.prog 182 #[.int .i64 a,.int .i64 b] w λe w'=>e=.returned (.tuple #[.int .i64 (a - b),.int .i64 0])/\w=w':=by
 have H:=Lib.hid (within_ok 200 a b (a - b) w ha hb hn (by rfl) (sub1 a b w ha hb));clear ha hb hn
 go_enter Tryz.func182,Tryz.ntmps182
 go_wp2_with fail
 refine H.out.mono ?_;rintro e w' ⟨rfl,rfl⟩
 go_wp2_with fail
 go_ret2
 exact ⟨rfl,rfl⟩
theorem sub_over (a b:Int) (w:World) (ha:Lim a) (hb:Lim b) (hn:a - b < -1099511627776\/1099511627776 < a - b) :
  Calls Tryz.prog 182 #[.int .i64 a,.int .i64 b] w λe w'=>e=.returned (.tuple #[.int .i64 0,.int .i64 7])/\w=w':=by
 have H:=Lib.hid (within_over 200 a b (a - b) w ha hb hn (by rfl) (sub1 a b w ha hb));clear ha hb hn
 go_enter Tryz.func182,Tryz.ntmps182
 go_wp2_with fail
 refine H.out.mono ?_;rintro e w' ⟨rfl,rfl⟩
 go_wp2_with fail
 go_ret2
 exact ⟨rfl,rfl⟩
end Go.Proofs.YthplkompdehjlaaGreat
