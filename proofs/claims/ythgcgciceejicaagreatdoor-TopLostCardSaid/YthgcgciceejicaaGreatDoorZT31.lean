/-
  Contracts of package num and of the law's own picked and within, over the given translation; no condition but that the numbers are int64's.
-/
import Derived.Test.YthgcgciceejicaaGreatDoorZT22
import Derived.RangeFuncNested
import Derived.RangeFuncBound
import Derived.TacticsInMore
import Derived.LoopNIn
import Derived.LoopIn
import Derived.Laws.EntriesVeiled
import Derived.Maps.OwnIn
import Derived.Test.YthgcgciceejicaaGreatDoorZT30
import Derived.Sort.KeysCollected
set_option maxHeartbeats 4000000
set_option maxRecDepth 100000
namespace Go.Proofs.YthgcgciceejicaaGreatDoor
open Go.RowKit
theorem within_ok (f:Nat) (a b n:Int) (w:World) (ha:Lim a) (hb:Lim b) (hn:Lim n)
  (hcf:(callFunc f #[Vi a,Vi b]).run Tryz.prog w=.ok (.enter f #[Vi a,Vi b]) w)
  (hf:Calls Tryz.prog f #[Vi a,Vi b] w λe w'=>e=.returned (Vi n) /\ w=w') :
  Calls Tryz.prog 230 #[Vi a,Vi b,.func (.func f) #[] #[]] w λe w'=>e=.returned (.tuple #[Vi n,Vi 0]) /\ w=w':=by
 have HF:=Fj hf;clear hf;obtain ⟨a0,a1⟩:=ha;obtain ⟨b0,b1⟩:=hb;obtain ⟨n0,n1⟩:=hn
 go_enter Tryz.func230,Tryz.ntmps230
 go_wp2_with fail
 refine (bK a w a0 a1).mono ?_;rintro e w' ⟨rfl,rfl⟩
 go_wp2_with fail
 refine (bK b w b0 b1).mono ?_;rintro e w' ⟨rfl,rfl⟩
 go_wp2_with fail
 refine (HF.out).mono ?_;rintro e w' ⟨rfl,rfl⟩
 go_wp2_with fail
 refine (bK n w n0 n1).mono ?_;rintro e w' ⟨rfl,rfl⟩
 go_wp2_with fail
 go_ret2
 exact ⟨rfl,rfl⟩
theorem within_over (f:Nat) (a b n:Int) (w:World) (ha:Lim a) (hb:Lim b) (hn:n < -1099511627776\/1099511627776 < n)
  (hcf:(callFunc f #[Vi a,Vi b]).run Tryz.prog w=.ok (.enter f #[Vi a,Vi b]) w)
  (hf:Calls Tryz.prog f #[Vi a,Vi b] w λe w'=>e=.returned (Vi n) /\ w=w') :
  Calls Tryz.prog 230 #[Vi a,Vi b,.func (.func f) #[] #[]] w λe w'=>e=.returned (.tuple #[Vi 0,Vi 7]) /\ w=w':=by
 have HF:=Fj hf;have HN:=Fj hn;clear hf hn;obtain ⟨a0,a1⟩:=ha;obtain ⟨b0,b1⟩:=hb
 go_enter Tryz.func230,Tryz.ntmps230
 go_wp2_with fail
 refine (bK a w a0 a1).mono ?_;rintro e w' ⟨rfl,rfl⟩
 go_wp2_with fail
 refine (bK b w b0 b1).mono ?_;rintro e w' ⟨rfl,rfl⟩
 go_wp2_with fail
 refine (HF.out).mono ?_;rintro e w' ⟨rfl,rfl⟩
 go_wp2_with fail
 refine (check_over n w HN.out).mono ?_;rintro e w' ⟨rfl,rfl⟩
 go_wp2_with fail
 go_ret2
 exact ⟨rfl,rfl⟩
theorem add1 (a b:Int) (w:World) (ha:Lim a) (hb:Lim b) :
  Calls Tryz.prog 235 #[Vi a,Vi b] w λe w'=>e=.returned (Vi (a + b)) /\ w=w':=by
 obtain ⟨a0,a1⟩:=ha;obtain ⟨b0,b1⟩:=hb
 go_enter Tryz.func235,Tryz.ntmps235
 go_wp2
 go_ret
 exact ⟨rfl,rfl⟩
theorem sub1 (a b:Int) (w:World) (ha:Lim a) (hb:Lim b) :
  Calls Tryz.prog 236 #[Vi a,Vi b] w λe w'=>e=.returned (Vi (a - b)) /\ w=w':=by
 obtain ⟨a0,a1⟩:=ha;obtain ⟨b0,b1⟩:=hb
 go_enter Tryz.func236,Tryz.ntmps236
 go_wp2
 go_ret
 exact ⟨rfl,rfl⟩
theorem add_ok (a b:Int) (w:World) (ha:Lim a) (hb:Lim b) (hn:Lim (a + b)) :
  Calls Tryz.prog 202 #[Vi a,Vi b] w λe w'=>e=.returned (.tuple #[Vi (a + b),Vi 0]) /\ w=w':=by
 have H:=Fj (within_ok 235 a b (a + b) w ha hb hn (by rfl) (add1 a b w ha hb));clear ha hb hn
 go_enter Tryz.func202,Tryz.ntmps202
 go_wp2_with fail
 refine H.out.mono ?_;rintro e w' ⟨rfl,rfl⟩
 go_wp2_with fail
 go_ret2
 exact ⟨rfl,rfl⟩
theorem add_over (a b:Int) (w:World) (ha:Lim a) (hb:Lim b) (hn:a + b < -1099511627776\/1099511627776 < a + b) :
  Calls Tryz.prog 202 #[Vi a,Vi b] w λe w'=>e=.returned (.tuple #[Vi 0,Vi 7]) /\ w=w':=by
 have H:=Fj (within_over 235 a b (a + b) w ha hb hn (by rfl) (add1 a b w ha hb));clear ha hb hn
 go_enter Tryz.func202,Tryz.ntmps202
 go_wp2_with fail
 refine H.out.mono ?_;rintro e w' ⟨rfl,rfl⟩
 go_wp2_with fail
 go_ret2
 exact ⟨rfl,rfl⟩
theorem sub_ok (a b:Int) (w:World) (ha:Lim a) (hb:Lim b) (hn:Lim (a - b)) :
  Calls Tryz.prog 203 #[Vi a,Vi b] w λe w'=>e=.returned (.tuple #[Vi (a - b),Vi 0]) /\ w=w':=by
 have H:=Fj (within_ok 236 a b (a - b) w ha hb hn (by rfl) (sub1 a b w ha hb));clear ha hb hn
 go_enter Tryz.func203,Tryz.ntmps203
 go_wp2_with fail
 refine H.out.mono ?_;rintro e w' ⟨rfl,rfl⟩
 go_wp2_with fail
 go_ret2
 exact ⟨rfl,rfl⟩
theorem sub_over (a b:Int) (w:World) (ha:Lim a) (hb:Lim b) (hn:a - b < -1099511627776\/1099511627776 < a - b) :
  Calls Tryz.prog 203 #[Vi a,Vi b] w λe w'=>e=.returned (.tuple #[Vi 0,Vi 7]) /\ w=w':=by
 have H:=Fj (within_over 236 a b (a - b) w ha hb hn (by rfl) (sub1 a b w ha hb));clear ha hb hn
 go_enter Tryz.func203,Tryz.ntmps203
 go_wp2_with fail
 refine H.out.mono ?_;rintro e w' ⟨rfl,rfl⟩
 go_wp2_with fail
 go_ret2
 exact ⟨rfl,rfl⟩
theorem lim_mul_pos {a b:Int} (h:0 < a):Lim (a * b)↔b <= 1099511627776 / a /\ -(1099511627776 / a) <= b:=by
 have q1:a * (1099511627776 / a) <= 1099511627776:=Int.mul_ediv_self_le (by omega);have q2:(1099511627776:Int) < a * (1099511627776 / a) + a:=Int.lt_mul_ediv_self_add h;generalize (1099511627776:Int) / a=q at *;unfold Lim
 constructor
 ·rintro ⟨l,u⟩
  constructor
  ·apply Int.not_lt.1
   intro hb
   have:=Int.mul_le_mul_of_nonneg_left (show q + 1 <= b by omega) (show 0 <= a by omega)
   rw [Int.mul_add,Int.mul_one] at this;omega
  ·apply Int.not_lt.1
   intro hb
   have:=Int.mul_le_mul_of_nonneg_left (show b <= -q - 1 by omega) (show 0 <= a by omega)
   rw [Int.mul_sub,Int.mul_one,Int.mul_neg] at this;omega
 ·rintro ⟨l,u⟩;have h1:=Int.mul_le_mul_of_nonneg_left l (show 0 <= a by omega);have h2:=Int.mul_le_mul_of_nonneg_left u (show 0 <= a by omega);rw [Int.mul_neg] at h2
  constructor <;> omega
theorem quo_bounds {a:Int} (h:0 < a):0 <= (1099511627776:Int) / a /\ (1099511627776:Int) / a <= 1099511627776:=by
 refine ⟨Int.ediv_nonneg (by omega) (by omega),?_⟩;exact Int.ediv_le_self _ (by omega)
theorem wrap_pos {a:Int} (h:0 < a):wrap64 (-Int.tdiv 1099511627776 a) = -(1099511627776 / a):=by
 rw [Int.tdiv_eq_ediv_of_nonneg (by omega)]
 have:=quo_bounds h
 exact IntWalk.wrap64_in _ (by omega)
theorem tdiv_neg {a:Int} (_h:a < 0):Int.tdiv 1099511627776 a = -(1099511627776 / (-a)):=by
 have:Int.tdiv 1099511627776 a = -Int.tdiv 1099511627776 (-a):=by rw [Int.tdiv_neg,Int.neg_neg]
 rw [this,Int.tdiv_eq_ediv_of_nonneg (by omega)]
theorem wrap_neg1 {a:Int} (h:a < 0):wrap64 (-Int.tdiv 1099511627776 a)=1099511627776 / (-a):=by
 rw [tdiv_neg h,Int.neg_neg]
 have:=quo_bounds (a := -a) (by omega)
 exact IntWalk.wrap64_in _ (by omega)
theorem wrap_neg2 {a:Int} (h:a < 0):wrap64 (Int.tdiv 1099511627776 a) = -(1099511627776 / (-a)):=by
 rw [tdiv_neg h]
 have:=quo_bounds (a := -a) (by omega)
 exact IntWalk.wrap64_in _ (by omega)
theorem lim_mul_neg {a b:Int} (h:a < 0):Lim (a * b) ↔ -b <= 1099511627776 / (-a) /\ -(1099511627776 / (-a)) <= -b:=by
 rw [<- lim_mul_pos (show 0 < -a by omega),Int.neg_mul_neg]
def MulPost (a b:Int) (w:World) (e:Ending) (w':World):Prop :=
 ∃ n:Int,e=.returned (Vi n) /\ w=w' /\ ((Lim (a * b) /\ n=a * b)\/(¬ Lim (a * b) /\ n=1099511627777))
theorem mulPost_ok {a b n:Int} {w:World} (h:Lim (a * b)) (hn:n=wrap64 (a * b)):MulPost a b w (.returned (Vi n)) w :=
 ⟨n,rfl,rfl,.inl ⟨h,by rw [hn]; exact IntWalk.wrap64_in _ (by obtain ⟨h1,h2⟩:=h; omega)⟩⟩
theorem kW {a b n:Int} {w:World} (h:¬ Lim (a * b)) (hn:n=1099511627777):MulPost a b w (.returned (Vi n)) w :=
 ⟨n,rfl,rfl,.inr ⟨h,hn⟩⟩
theorem pos_ok {a b:Int} (h:0 < a) (h1:b <= 1099511627776 / a) (h2:wrap64 (-Int.tdiv 1099511627776 a) <= b):Lim (a * b):=by
 rw [wrap_pos h] at h2; exact (lim_mul_pos h).2 ⟨h1,h2⟩
theorem pos_over1 {a b:Int} (h:0 < a) (h1:1099511627776 / a < b):¬ Lim (a * b):=λk=>by have:=(lim_mul_pos h).1 k; omega
theorem pos_over2 {a b:Int} (h:0 < a) (h2:b < wrap64 (-Int.tdiv 1099511627776 a)):¬ Lim (a * b):=λk=>by
 rw [wrap_pos h] at h2; have:=(lim_mul_pos h).1 k; omega
theorem neg_ok {a b:Int} (h:a < 0) (h1:b <= wrap64 (-Int.tdiv 1099511627776 a)) (h2:wrap64 (Int.tdiv 1099511627776 a) <= b):Lim (a * b):=by
 rw [wrap_neg1 h] at h1; rw [wrap_neg2 h] at h2; exact (lim_mul_neg h).2 ⟨by omega,by omega⟩
theorem neg_over1 {a b:Int} (h:a < 0) (h1:wrap64 (-Int.tdiv 1099511627776 a) < b):¬ Lim (a * b):=λk=>by
 rw [wrap_neg1 h] at h1; have:=(lim_mul_neg h).1 k; omega
theorem neg_over2 {a b:Int} (h:a < 0) (h2:b < wrap64 (Int.tdiv 1099511627776 a)):¬ Lim (a * b):=λk=>by
 rw [wrap_neg2 h] at h2; have:=(lim_mul_neg h).1 k; omega
theorem mul1_pos (a b:Int) (w:World) (ha:Lim a) (hb:Lim b) (h:0 < a) :
  Calls Tryz.prog 231 #[Vi a,Vi b] w (MulPost a b w):=by
 obtain ⟨a0,a1⟩:=ha;obtain ⟨b0,b1⟩:=hb
 go_enter Tryz.func231,Tryz.ntmps231
 go_wp2
 ·go_ret
  exact mulPost_ok (pos_ok h ‹_› ‹_›) rfl
 ·go_ret
  exact kW (pos_over2 h ‹_›) rfl
 ·go_ret
  exact kW (pos_over1 h ‹_›) rfl
theorem mul1_neg (a b:Int) (w:World) (ha:Lim a) (hb:Lim b) (h:a < 0) :
  Calls Tryz.prog 231 #[Vi a,Vi b] w (MulPost a b w):=by
 obtain ⟨a0,a1⟩:=ha;obtain ⟨b0,b1⟩:=hb;have hz:(a != 0)=true:=by rw [Hk]; omega
 go_enter Tryz.func231,Tryz.ntmps231
 go_wp2
 ·go_ret
  rename_i k1 k2 _;rcases k2 with k2 | k2
  ·exact kW (neg_over1 h k2) rfl
  ·exact kW (neg_over2 h k2) rfl
 ·go_ret
  rename_i k1 k2 _;exact mulPost_ok (neg_ok h k2.1 k2.2) rfl
 ·go_ret
  exact kW (neg_over1 h ‹_›) rfl
theorem mul1_zero (b:Int) (w:World) :
  Calls Tryz.prog 231 #[Vi 0,Vi b] w (MulPost 0 b w):=by
 have hz:((0:Int) != 0)=false:=by decide
 go_enter Tryz.func231,Tryz.ntmps231
 go_wp2
 go_ret
 exact ⟨0,by simp,rfl,.inl ⟨by simp [Lim],by simp⟩⟩
theorem mul1_any (a b:Int) (w:World) (ha:Lim a) (hb:Lim b):Calls Tryz.prog 231 #[Vi a,Vi b] w (MulPost a b w):=by
 by_cases h:0 < a
 ·exact mul1_pos a b w ha hb h
 ·by_cases k:a < 0
  ·exact mul1_neg a b w ha hb k
  ·obtain rfl:a=0:=by omega
   exact mul1_zero b w
theorem mul1_ok (a b:Int) (w:World) (ha:Lim a) (hb:Lim b) (hn:Lim (a * b)) :
  Calls Tryz.prog 231 #[Vi a,Vi b] w λe w'=>e=.returned (Vi (a * b)) /\ w=w':=by
 refine (mul1_any a b w ha hb).mono ?_;rintro e w' ⟨n,rfl,rfl,⟨_,rfl⟩ | ⟨h,_⟩⟩
 ·exact ⟨rfl,rfl⟩
 ·exact (h hn).elim
theorem mul1_over (a b:Int) (w:World) (ha:Lim a) (hb:Lim b) (hn:¬ Lim (a * b)) :
  Calls Tryz.prog 231 #[Vi a,Vi b] w λe w'=>e=.returned (Vi 1099511627777) /\ w=w':=by
 refine (mul1_any a b w ha hb).mono ?_;rintro e w' ⟨n,rfl,rfl,⟨h,rfl⟩ | ⟨_,rfl⟩⟩
 ·exact (hn h).elim
 ·exact ⟨rfl,rfl⟩
theorem mul_ok (a b n:Int) (w:World) (ha:Lim a) (hb:Lim b) (hn:Lim n) (h:n=a * b) :
  Calls Tryz.prog 199 #[Vi a,Vi b] w λe w'=>e=.returned (.tuple #[Vi n,Vi 0]) /\ w=w':=by
 subst h;have H:=Fj (within_ok 231 a b (a * b) w ha hb hn (by rfl) (mul1_ok a b w ha hb hn));clear ha hb hn;generalize a * b=n at *
 go_enter Tryz.func199,Tryz.ntmps199
 go_wp2_with fail
 with_reducible refine (H.out).mono ?_
 rintro e w' ⟨rfl,rfl⟩
 go_wp2_with fail
 go_ret2
 exact ⟨rfl,rfl⟩
theorem mul_over (a b:Int) (w:World) (ha:Lim a) (hb:Lim b) (hn:¬ Lim (a * b)) :
  Calls Tryz.prog 199 #[Vi a,Vi b] w λe w'=>e=.returned (.tuple #[Vi 0,Vi 7]) /\ w=w':=by
 have H:=Fj (within_over 231 a b 1099511627777 w ha hb (by omega) (by rfl) (mul1_over a b w ha hb hn));clear ha hb hn
 go_enter Tryz.func199,Tryz.ntmps199
 go_wp2_with fail
 with_reducible refine (H.out).mono ?_
 rintro e w' ⟨rfl,rfl⟩
 go_wp2_with fail
 go_ret2
 exact ⟨rfl,rfl⟩
def down (a b:Int):Bool:=decide (a.tmod b≠0) && (decide (a.tmod b < 0) != decide (b < 0))
def fq (a b:Int):Int:=if down a b then a.tdiv b - 1 else a.tdiv b
def fr (a b:Int):Int:=if down a b then a.tmod b + b else a.tmod b
theorem tmod_abs (a b:Int) (h:b≠0):(0 <= a.tmod b -> 0 <= a.tmod b /\ a.tmod b < b.natAbs) /\ (a.tmod b < 0 -> -(b.natAbs:Int) < a.tmod b):=by
 have h1:(a.tmod b).natAbs < b.natAbs:=by
  rw [Int.natAbs_tmod]; exact Nat.mod_lt _ (by omega)
 omega
theorem tdiv_lim {a b:Int} (ha:Lim a) : -1099511627776 <= a.tdiv b /\ a.tdiv b <= 1099511627776:=by
 have h1:(a.tdiv b).natAbs <= a.natAbs:=by
  rw [Int.natAbs_tdiv]; exact Nat.div_le_self _ _
 obtain ⟨a0,a1⟩:=ha;omega
theorem tmod_lim {a b:Int} (ha:Lim a) : -1099511627776 <= a.tmod b /\ a.tmod b <= 1099511627776:=by
 have h1:(a.tmod b).natAbs <= a.natAbs:=by
  rw [Int.natAbs_tmod]; exact Nat.mod_le _ _
 obtain ⟨a0,a1⟩:=ha;omega
def Draws (v:Value) (w:World) (e:Ending) (w':World):Prop:=e=.returned v /\ ∃ n,w'=w.drewN n
theorem draws_mk {v v':Value} {w:World} {n:Nat} (h:v=v'):Draws v' w (.returned v) (w.drewN n):=by subst h; exact ⟨rfl,n,rfl⟩
theorem down_false0 {a b:Int} (h:a.tmod b=0):down a b=false:=by simp [down,h]
theorem down_true {a b:Int} (h:(a.tmod b != 0)=true /\ (!decide (a.tmod b < 0) == decide (b < 0))=true):down a b=true:=by
 obtain ⟨h1,h2⟩:=h;have h1':a.tmod b≠0:=Hk.1 h1;unfold down;rw [Jj h1']
 cases h3:decide (a.tmod b < 0) <;> cases h4:decide (b < 0) <;> simp_all
theorem down_false {a b:Int} (h:(a.tmod b != 0)=false\/(!decide (a.tmod b < 0) == decide (b < 0))=false):down a b=false:=by
 unfold down;rcases h with h | h
 ·have:a.tmod b=0:=by simpa using h
  simp [this]
 ·cases h3:decide (a.tmod b < 0) <;> cases h4:decide (b < 0) <;> simp_all
theorem pair_down {a b q r:Int} (h:down a b=true) (hq:q=a.tdiv b - 1) (hr:r=a.tmod b + b) :
  Value.tuple #[Vi q,Vi r]=.tuple #[Vi (fq a b),Vi (fr a b)]:=by simp [fq,fr,h,hq,hr]
theorem pair_up {a b:Int} (h:down a b=false) :
  Value.tuple #[Vi (a.tdiv b),Vi (a.tmod b)]=.tuple #[Vi (fq a b),Vi (fr a b)]:=by simp [fq,fr,h]
theorem pair_zero {a b:Int} (h:a.tmod b=0) :
  Value.tuple #[Vi (a.tdiv b),Vi 0]=.tuple #[Vi (fq a b),Vi (fr a b)]:=by simp [fq,fr,down_false0 h,h]
theorem floor_any (a b:Int) (w:World) (ha:Lim a) (hb:Lim b) (h:b≠0) :
  Calls Tryz.prog 233 #[Vi a,Vi b] w (Draws (.tuple #[Vi (fq a b),Vi (fr a b)]) w):=by
 have qb:=tdiv_lim (b:=b) ha;have rb:=tmod_lim (b:=b) ha;obtain ⟨a0,a1⟩:=ha;obtain ⟨b0,b1⟩:=hb;obtain ⟨q0,q1⟩:=qb;obtain ⟨r0,r1⟩:=rb;have hz:(b == 0)=false:=Lj.2 h;have hw:IntKind.i64.wrap (a.tdiv b)=a.tdiv b:=IntWalk.i64_in _ (by omega)
 go_enter Tryz.func233,Tryz.ntmps233
 go_wp2
 go_quiet (fail)
 clear hw
 go_wp2
 ·go_ret2
  exact draws_mk (pair_zero (by assumption))
 ·go_ret2
  exact draws_mk (pair_down (down_true (by assumption)) rfl rfl)
 ·go_ret2
  exact draws_mk (pair_up (down_false (by assumption)))
theorem fq_lim {a b:Int} (ha:Lim a) (_hb:Lim b) (h:b≠0):Lim (fq a b):=by
 have h1:=tdiv_lim (b:=b) ha;unfold fq
 split
 ·rename_i k;have h2:a.tmod b≠0:=by
   intro e; rw [down_false0 e] at k; cases k
  have h3:(a.tdiv b).natAbs < a.natAbs \/ -1099511627776 < a.tdiv b:=by
   by_cases hb1:b.natAbs=1
   ·exfalso; apply h2
    have:(a.tmod b).natAbs < 1:=by rw [Int.natAbs_tmod,hb1]; exact Nat.mod_lt _ (by omega)
    omega
   ·by_cases ha0:a.natAbs=0
    ·exfalso; apply h2
     have:a=0:=by omega
     subst this; simp
    ·left
     rw [Int.natAbs_tdiv];exact Nat.div_lt_self (by omega) (by omega)
  obtain ⟨a0,a1⟩:=ha;unfold Lim; omega
 ·exact h1
theorem fr_lim {a b:Int} (ha:Lim a) (hb:Lim b) (h:b≠0):Lim (fr a b):=by
 have h1:=tmod_lim (b:=b) ha;have h2:=tmod_abs a b h;unfold fr
 split
 ·rename_i k;obtain ⟨b0,b1⟩:=hb;unfold down at k;have k2:decide (a.tmod b < 0)≠decide (b < 0):=by
   intro e; rw [e] at k; simp at k
  unfold Lim
  by_cases c1:a.tmod b < 0 <;> by_cases c2:b < 0 <;> simp [c1,c2] at k2 <;> omega
 ·exact h1
theorem div1 (a b:Int) (w:World) (ha:Lim a) (hb:Lim b) (h:b≠0):Calls Tryz.prog 232 #[Vi a,Vi b] w (Draws (Vi (fq a b)) w):=by
 have H:=Fj (floor_any a b w ha hb h);clear ha hb h
 go_enter Tryz.func232,Tryz.ntmps232
 go_wp2_with fail
 with_reducible refine (H.out).mono ?_
 rintro e w' ⟨rfl,n,rfl⟩
 go_wp2_with fail
 go_ret
 exact ⟨rfl,n,rfl⟩
theorem mod1 (a b:Int) (w:World) (ha:Lim a) (hb:Lim b) (h:b≠0):Calls Tryz.prog 234 #[Vi a,Vi b] w (Draws (Vi (fr a b)) w):=by
 have H:=Fj (floor_any a b w ha hb h);clear ha hb h
 go_enter Tryz.func234,Tryz.ntmps234
 go_wp2_with fail
 with_reducible refine (H.out).mono ?_
 rintro e w' ⟨rfl,n,rfl⟩
 go_wp2_with fail
 go_ret
 exact ⟨rfl,n,rfl⟩
theorem within_okD (f:Nat) (a b n:Int) (w:World) (ha:Lim a) (hb:Lim b) (hn:Lim n)
  (hcf:(callFunc f #[Vi a,Vi b]).run Tryz.prog w=.ok (.enter f #[Vi a,Vi b]) w)
  (hf:Calls Tryz.prog f #[Vi a,Vi b] w (Draws (Vi n) w)) :
  Calls Tryz.prog 230 #[Vi a,Vi b,.func (.func f) #[] #[]] w (Draws (.tuple #[Vi n,Vi 0]) w):=by
 have HF:=Fj hf;clear hf;obtain ⟨a0,a1⟩:=ha;obtain ⟨b0,b1⟩:=hb;obtain ⟨n0,n1⟩:=hn
 go_enter Tryz.func230,Tryz.ntmps230
 go_wp2_with fail
 with_reducible refine (bK a w a0 a1).mono ?_
 rintro e w' ⟨rfl,rfl⟩
 go_wp2_with fail
 with_reducible refine (bK b w b0 b1).mono ?_
 rintro e w' ⟨rfl,rfl⟩
 go_wp2_with fail
 with_reducible refine (HF.out).mono ?_
 rintro e w' ⟨rfl,k,rfl⟩
 go_wp2_with fail
 with_reducible refine (bK n _ n0 n1).mono ?_
 rintro e w' ⟨rfl,rfl⟩
 go_wp2_with fail
 go_ret2
 exact ⟨rfl,k,rfl⟩
theorem div_ok (a b:Int) (w:World) (ha:Lim a) (hb:Lim b) (h:b≠0) :
  Calls Tryz.prog 200 #[Vi a,Vi b] w (Draws (.tuple #[Vi (fq a b),Vi 0]) w):=by
 have H:=Fj (within_okD 232 a b (fq a b) w ha hb (fq_lim ha hb h) (by rfl) (div1 a b w ha hb h));have hz:(b == 0)=false:=Lj.2 h;clear ha hb h
 go_enter Tryz.func200,Tryz.ntmps200
 go_wp2_with fail
 with_reducible refine (H.out).mono ?_
 rintro e w' ⟨rfl,k,rfl⟩
 go_wp2_with fail
 go_ret2
 exact ⟨rfl,k,rfl⟩
theorem mod_ok (a b:Int) (w:World) (ha:Lim a) (hb:Lim b) (h:b≠0) :
  Calls Tryz.prog 201 #[Vi a,Vi b] w (Draws (.tuple #[Vi (fr a b),Vi 0]) w):=by
 have H:=Fj (within_okD 234 a b (fr a b) w ha hb (fr_lim ha hb h) (by rfl) (mod1 a b w ha hb h));have hz:(b == 0)=false:=Lj.2 h;clear ha hb h
 go_enter Tryz.func201,Tryz.ntmps201
 go_wp2_with fail
 with_reducible refine (H.out).mono ?_
 rintro e w' ⟨rfl,k,rfl⟩
 go_wp2_with fail
 go_ret2
 exact ⟨rfl,k,rfl⟩
theorem div_zero (a:Int) (w:World) (ha:Lim a) :
  Calls Tryz.prog 200 #[Vi a,Vi 0] w λe w'=>e=.returned (.tuple #[Vi 0,Vi 8]) /\ w=w':=by
 obtain ⟨a0,a1⟩:=ha
 go_enter Tryz.func200,Tryz.ntmps200
 go_wp2_with fail
 with_reducible refine (bK a w a0 a1).mono ?_
 rintro e w' ⟨rfl,rfl⟩
 go_wp2_with fail
 go_ret2
 exact ⟨rfl,rfl⟩
theorem mod_zero (a:Int) (w:World) (ha:Lim a) :
  Calls Tryz.prog 201 #[Vi a,Vi 0] w λe w'=>e=.returned (.tuple #[Vi 0,Vi 8]) /\ w=w':=by
 obtain ⟨a0,a1⟩:=ha
 go_enter Tryz.func201,Tryz.ntmps201
 go_wp2_with fail
 with_reducible refine (bK a w a0 a1).mono ?_
 rintro e w' ⟨rfl,rfl⟩
 go_wp2_with fail
 go_ret2
 exact ⟨rfl,rfl⟩
def OkV (v:Vl):Prop:=v.known\/v=⟨4,0,⟨#[]⟩⟩\/(v.k=5 /\ 1 <= v.n /\ v.n <= 15 /\ v.s=⟨#[]⟩)
def uK (e:Int):Vl:=⟨5,e,⟨#[]⟩⟩
def truthV (b:Bool):Vl:=⟨2,if b then 1 else 0,⟨#[]⟩⟩
def sW (op a b:Int):Int × Int :=
 if op=5 then (if -1099511627776 <= a * b /\ a * b <= 1099511627776 then (a * b,0) else (0,7))
 else if op=6 then (if b=0 then (0,8) else (fq a b,0))
 else if op=7 then (if b=0 then (0,8) else (fr a b,0))
 else if op=8 then (if -1099511627776 <= a + b /\ a + b <= 1099511627776 then (a + b,0) else (0,7))
 else (if -1099511627776 <= a - b /\ a - b <= 1099511627776 then (a - b,0) else (0,7))
def nrV (op a b:Int):Vl:=if (sW op a b).2=0 then ⟨1,(sW op a b).1,⟨#[]⟩⟩ else uK (sW op a b).2
def tV (l:List Vl) (k:Int):Bool:=l.all (λv=>v.k == k)
def hdV (l:List Vl) (i:Nat):Vl:=l.getD i ⟨0,0,⟨#[]⟩⟩
def cmpB (op c:Int):Bool:=if op=11 then decide (c < 0) else if op=12 then decide (c <= 0) else if op=13 then c == 0 else c != 0
def joinV (x y:Vl):Vl:=if 40 < x.s.size + y.s.size then uK 1 else ⟨3,0,x.s++y.s⟩
def lJ (op:Int) (l:List Vl):Vl :=
 if 11 <= op /\ op <= 14 then (if (hdV l 0).k=(hdV l 1).k then truthV (cmpB op (cmpV (hdV l 0).n (hdV l 1).n (hdV l 0).s.toList (hdV l 1).s.toList)) else uK 9)
 else if op=4 then (if tV l 2 then truthV ((hdV l 0).n == 0) else uK 9)
 else if op=18 then (if tV l 3 then ⟨1,((hdV l 0).s.size:Int),⟨#[]⟩⟩ else uK 9)
 else if op=10 then (if tV l 3 then joinV (hdV l 0) (hdV l 1) else uK 9)
 else if op=3 then (if tV l 1 then nrV 9 0 (hdV l 0).n else uK 9)
 else (if tV l 1 then nrV op (hdV l 0).n (hdV l 1).n else uK 9)
def xV:Option Vl -> List Vl -> Option Vl
 | p,[]=>p
 | p,v :: l=>if v.k=5 then some v else xV (if v.k=4 then some v else p) l
def wJ (v:Vl):Vl:=if v.k=1\/v.k=3 then uK 9 else v
def eQ (v:Vl):Vl × Bool:=if v.k=1\/v.k=3 then (uK 9,false) else (v,v.k == 2)
mutual
def mK (env:Env):Ex -> Vl
 | .mk op k n s nm args =>
  if op=1 then ⟨k,n,s⟩
  else if op=2 then (match env.get nm with | some v=>v | none=>uK 5)
  else if op=15\/op=16 then
   (if (eQ (hdV (nK env args) 0)).2=false\/((eQ (hdV (nK env args) 0)).1.n == 1)=(op == 16) then (eQ (hdV (nK env args) 0)).1 else wJ (hdV (nK env args) 1))
  else if op=17 then
   (if (eQ (hdV (nK env args) 0)).2=false then (eQ (hdV (nK env args) 0)).1 else if (eQ (hdV (nK env args) 0)).1.n=1 then hdV (nK env args) 1 else hdV (nK env args) 2)
  else (match xV none (nK env args) with | some v=>v | none=>lJ op (nK env args))
def nK (env:Env):List Ex -> List Vl
 | []=>[]
 | x :: l=>mK env x :: nK env l
end
theorem oK (env:Env):∀ l,nK env l=l.map (mK env)
 | []=>by rw [nK]; rfl
 | x :: l=>by rw [nK,oK env l]; rfl
theorem evalE_eq (env:Env) (x:Ex):mK env x =
  if x.op=1 then ⟨x.k,x.n,x.s⟩
  else if x.op=2 then (match env.get x.nm with | some v=>v | none=>uK 5)
  else if x.op=15\/x.op=16 then
   (if (eQ (hdV (nK env x.args) 0)).2=false\/((eQ (hdV (nK env x.args) 0)).1.n == 1)=(x.op == 16) then (eQ (hdV (nK env x.args) 0)).1 else wJ (hdV (nK env x.args) 1))
  else if x.op=17 then
   (if (eQ (hdV (nK env x.args) 0)).2=false then (eQ (hdV (nK env x.args) 0)).1 else if (eQ (hdV (nK env x.args) 0)).1.n=1 then hdV (nK env x.args) 1 else hdV (nK env x.args) 2)
  else (match xV none (nK env x.args) with | some v=>v | none=>lJ x.op (nK env x.args)):=by
 obtain ⟨a,b,c,d,e,l⟩:=x;rw [mK]; rfl
theorem wW {e:Int} (h0:1 <= e) (h1:e <= 15):OkV (uK e):=.inr (.inr ⟨rfl,h0,h1,rfl⟩)
theorem ok_truth (b:Bool):OkV (truthV b):=.inl (.inr (.inl ⟨rfl,by cases b <;> simp [truthV],rfl⟩))
theorem ok_kinds {v:Vl} (h:OkV v):1 <= v.k /\ v.k <= 5:=by
 rcases h with h | rfl | ⟨h,-⟩
 ·have:=known_kind h; omega
 ·exact ⟨by decide,by decide⟩
 ·omega
theorem ok_known {v:Vl} (h:OkV v) (h4:v.k≠4) (h5:v.k≠5):v.known:=by
 rcases h with h | rfl | ⟨h,-⟩
 ·exact h
 ·exact absurd rfl h4
 ·exact absurd h h5
theorem numOp_ok {op a b:Int} (ha:Lim a) (hb:Lim b):((sW op a b).2=0 /\ Lim (sW op a b).1)\/(sW op a b).2=7\/(sW op a b).2=8:=by
 unfold sW
 repeat' split
 all_goals first | (left; exact ⟨rfl,by unfold Lim; assumption⟩) | (right; left; rfl) | (right; right; rfl) | (left; exact ⟨rfl,fq_lim ha hb (by assumption)⟩) | (left; exact ⟨rfl,fr_lim ha hb (by assumption)⟩)
theorem nrV_ok {op a b:Int} (ha:Lim a) (hb:Lim b):OkV (nrV op a b):=by
 unfold nrV;rcases numOp_ok (op:=op) ha hb with ⟨h,hl⟩ | h | h
 ·rw [Cj h]; exact .inl (.inl ⟨rfl,hl,rfl⟩)
 ·rw [Bj (by omega),h]; exact wW (by omega) (by omega)
 ·rw [Bj (by omega),h]; exact wW (by omega) (by omega)
theorem ex_ind {p:Ex -> Prop} (h:∀ x:Ex,(∀ y∈x.args,p y) -> p x) (x:Ex):p x:=by
 have key:∀ (m:Nat) (x:Ex),(szE x).1 <= m -> p x:=by
  intro m
  induction m with
  | zero=>intro x hx; have:=szE_pos x; omega
  | succ m ih =>
   intro x hx;refine h x λy hy=>ih y ?_;have h1:=zY x;have h2:=(szL_mem hy).1;rw [h1] at hx;simp only at hx;omega
 exact key _ x (Hj _)
mutual
def yX:Ex -> List ByteArray
 | .mk op _ _ _ nm args=>(if op=2 then [nm] else [])++aY args
def aY:List Ex -> List ByteArray
 | []=>[]
 | x :: l=>yX x++aY l
end
theorem zX (x:Ex):yX x=(if x.op=2 then [x.nm] else [])++aY x.args:=by
 obtain ⟨a,b,c,d,e,l⟩:=x;rw [yX]; rfl
theorem refsL_app (l m:List Ex):aY (l++m)=aY l++aY m:=by
 induction l with
 | nil=>simp [aY]
 | cons x l ih=>rw [Xq,aY,aY,ih,Lq]
theorem mem_refsL {s:ByteArray}:∀ {l:List Ex},s∈aY l↔∃ x∈l,s∈yX x
 | []=>by simp [aY]
 | x :: l=>by rw [aY,Qj,mem_refsL (l:=l)]; simp
theorem refs_op (op:Int) (l:List Ex) (h:op≠2):yX (opE op l)=aY l:=by
 rw [zX,Bj (show ¬ (opE op l).op=2 from h)]; rfl
theorem refs_ref (s:ByteArray):yX (refE s)=[s]:=by
 rw [zX,Cj (show (refE s).op=2 from rfl)]; rfl
mutual
def putE (n:ByteArray) (y:Ex):Ex -> Ex
 | .mk op k m s nm args=>if op=2 /\ nm=n then y else .mk op k m s nm (putL n y args)
def putL (n:ByteArray) (y:Ex):List Ex -> List Ex
 | []=>[]
 | x :: l=>putE n y x :: putL n y l
end
theorem ref_shape {x:Ex} (h:WfE x) (h2:x.op=2):x=refE x.nm /\ qJ x.nm.data.toList:=by
 rcases h.top with ⟨h1,-⟩ | ⟨h1,hn,hk,hm,hs,ha⟩ | ⟨h1,-⟩
 ·omega
 ·obtain ⟨a,b,c,d,e,l⟩:=x;simp only [Ex.op,Ex.k,Ex.n,Ex.s,Ex.args] at h1 hk hm hs ha;have ha:l=[]:=Wq.1 ha;subst h1 hk hm hs ha;exact ⟨rfl,hn⟩
 ·omega
theorem ref_args {x:Ex} (h:WfE x) (h2:x.op=2):x.args=[]:=by rw [(ref_shape h h2).1]; rfl
open Go.RowKit Go.Shelf
attribute [local go_sem] Oper.semAt_some
structure KeepsCells (W W':World):Prop where
 size:W.heap.size <= W'.heap.size
 same:∀ (k:Nat) (o:Obj),W.heap[k]?=some o -> o.isCells=true -> W'.heap[k]?=some o
theorem KeepsCells.refl (W:World):KeepsCells W W:=⟨Hj _,λ_ _ h _=>h⟩
theorem KeepsCells.trans {A B C:World} (h:KeepsCells A B) (k:KeepsCells B C):KeepsCells A C:=⟨Yk h.size k.size,λi o hi ho=>k.same i o (h.same i o hi ho) ho⟩
theorem KeepsCells.grown {W W':World} {row:Option Nat} (hg:W.grownBy W' row) (hr:∀ r,row=some r -> ∃ o:Obj,W.heap[r]?=some o /\ o.isCells=false):KeepsCells W W' :=
 ⟨hg.size,λk o hk ho=>(hg.block k (Nk.1 hk).1 (λe=>by
  obtain ⟨o',h1,h2⟩:=hr k e.symm;rw [hk] at h1;simp only [Yj] at h1;subst h1;rw [ho] at h2; cases h2)).trans hk⟩
theorem KeepsCells.alloc (W:World) (o:Obj):KeepsCells W (W.alloc o):=.grown (World.grownBy_alloc W o none) (λr e=>by cases e)
theorem KeepsCells.boxed {W W':World} (h:KeepsCells W W') {b:Nat} {t:TypeId} {v:Value} (hb:Boxed W b t v):Boxed W' b t v:=h.same b _ hb rfl
theorem KeepsCells.cell {W W':World} (h:KeepsCells W W') {a:Addr} {v:Value} (hc:W.cell? a=some v):W'.cell? a=some v:=by
 unfold World.cell? at hc ⊢
 cases ho:W.heap[a.block]? with
 | none=>rw [ho] at hc; cases hc
 | some o =>
  rw [ho] at hc
  cases o with
  | cells cs t f=>rw [h.same _ _ ho rfl]; exact hc
  | _=>cases hc
structure Kp (n:Nat) (W W':World):Prop where
 below:Below n W W'
 cells:KeepsCells W W'
theorem Kp.refl (n:Nat) (W:World):Kp n W W:=⟨Wj _ _,KeepsCells.refl _⟩
theorem Kp.trans {n:Nat} {A B C:World} (h:Kp n A B) (k:Kp n B C):Kp n A C:=⟨h.below.trans k.below,h.cells.trans k.cells⟩
theorem Kp.alloc {n:Nat} {W:World} (hn:n <= W.heap.size) (o:Obj):Kp n W (W.alloc o):=⟨(Wj _ _).alloc hn _,KeepsCells.alloc _ _⟩
theorem kp_t {n:Nat} {A B C:World} (h:Kp n A B) (k:Kp n B C):Kp n A C:=h.trans k
theorem kp_b {n:Nat} {w:World} (hn:n <= w.heap.size) (W:World) (l:Nat) (o o':Obj) (hl:w.heap.size <= l) (h:W.heap[l]?=some o) (hc:o.isCells=false) (hw:o.isWalk=false):Kp n W (W.putObj l o') :=
 ⟨belowK_b hn W l o o' hl h hc hw,.grown (grownBy_putObj' W l o') (λr e=>by cases e; exact ⟨o,h,hc⟩)⟩
theorem sees_below {h:Vw} {W:World} (hb:Below h.w.heap.size h.w W):Sees h ⟨W,h.bad⟩:=⟨hb.size,λb hlt _=>hb.block b hlt,λ_ hb _=>hb⟩
theorem grown_none {W W':World} (hb:Below W.heap.size W W'):W.grownBy W' none:=⟨hb.os,hb.tape,hb.output,hb.size,λk hk _=>hb.block k hk⟩
theorem room_of_none {F:Fence} (hd:F.depth=none) (k:Nat):F.room k:=λd h=>by rw [hd] at h; cases h
theorem RoundIn.anyDepth {F:Fence} (hd:F.depth=none) {m m':Nat} {P:Program} {l:Nat} {f:FuncId} {tmps:Array Value} {assign body:Code} {w:World} {R:Ending -> World -> Prop}
  (h:RoundIn F m P l f tmps assign body w R):RoundIn F m' P l f tmps assign body w R:=⟨h.1,λc cs _=>h.2 c cs (room_of_none hd _)⟩
theorem YieldAt.anyDepth {F:Fence} (hd:F.depth=none) {m:Nat} (m':Nat) {P:Program} {l:Nat} {args:Array Value} {W:World} {R:Ending -> World -> Prop} (h:YieldAt F m P l args W R):YieldAt F m' P l args W R:=by
 obtain ⟨fn,tmps,assign,body,hy,hR⟩:=h;exact ⟨fn,tmps,assign,body,hy,RoundIn.anyDepth hd hR⟩
theorem sZ (k:Nat):Fence.wide.depth.isSome=true -> 1 <= k:=λh=>by
 have e:Fence.wide.depth=none:=rfl;rw [e] at h; cases h
def WalkPost (n₀:Nat) (J Jx:List ByteArray -> World -> Prop) (pre r:List ByteArray) (W:World) (e:Ending) (W':World):Prop :=
 (e=.returned (.bool true) /\ J (pre++r) W' /\ Kp n₀ W W')\/(e=.returned (.bool false) /\ ∃ q,q <+: r /\ Jx (pre++q) W')
def YieldPost (n₀:Nat) (J Jx:List ByteArray -> World -> Prop) (pre:List ByteArray) (s:ByteArray) (W:World) (e:Ending) (W':World):Prop :=
 (e=.returned (.bool true) /\ J (pre++[s]) W' /\ Kp n₀ W W')\/(e=.returned (.bool false) /\ Jx (pre++[s]) W')
abbrev walkV (bY bW:Nat):Value:=.func (.func 254) #[] #[.pointer (some ⟨bY,0,none⟩),.pointer (some ⟨bW,0,none⟩)]
theorem walk_ref (l bY bW N B:Nat) (n₀:Nat) (J Jx:List ByteArray -> World -> Prop) (hJ:AbidesFrom B J)
  (hY:∀ m pre s W,J pre W -> pre.length < N -> YieldAt Fence.wide m Tryz.prog l #[Vt s] W (YieldPost n₀ J Jx pre s W))
  (s:ByteArray) (A:Option Addr) (c n:Nat) (pre:List ByteArray) (W:World) (hn:n₀ <= W.heap.size) (bY':Boxed W bY 77 (.func (.yield l) #[] #[])) (hj:J pre W) (hN:pre.length < N) :
  CallsIn Fence.wide n Tryz.prog 254 #[.agg #[Vi 2,Vi 0,Vi 0,.string ⟨#[]⟩,.string s,.slice A 0 c],.pointer (some ⟨bY,0,none⟩),.pointer (some ⟨bW,0,none⟩)] W
   (WalkPost n₀ J Jx pre [s] W):=by
 have hj2:J pre (W.alloc (.cells #[Vi 2,Vi 0,Vi 0,.string ⟨#[]⟩,.string s,.slice A 0 c] 47)):=hJ pre W _ none hj (World.grownBy_alloc W _ none) (λr e=>by cases e);obtain ⟨fn,tmps,assign,body,hy,hR⟩:=hY (n - 1) pre s _ hj2 hN;have cY:=(bY'.alloc (.cells #[Vi 2,Vi 0,Vi 0,.string ⟨#[]⟩,.string s,.slice A 0 c] 47)).cell;have bx:=Box.new W #[Vi 2,Vi 0,Vi 0,.string ⟨#[]⟩,.string s,.slice A 0 c] 47;have hk0:=Kp.alloc hn (.cells #[Vi 2,Vi 0,Vi 0,.string ⟨#[]⟩,.string s,.slice A 0 c] 47);have hR2:=hR.mono (R':=λe W2=>(e=.returned (.bool true) /\ J (pre++[s]) W2 /\ Kp n₀ _ W2 /\ W2.cell? ⟨W.heap.size,5,none⟩=some (.slice A 0 c))\/(e=.returned (.bool false) /\ Jx (pre++[s]) W2))
  (λe W2 h=>h.elim (λ⟨a,b,k⟩=>.inl ⟨a,b,k,k.cells.cell (bx.cells 5 _ rfl)⟩) .inr)
 clear hR;refine callsIn_of_wp Tryz.func254 rfl trivial ?_ rfl;simp only [Tryz.ntmps254,Rq,Sk,Fq,Nat.reduceAdd,Nat.reduceSub,Nw,Ow,Pw,Qw,Uv,Xq]
 gi_wp2_with ((try refine ⟨sZ _,?_⟩); refine hR2.mono ?_; clear hR2; rintro e W2 (⟨rfl,hJ2,hk2,c5⟩ | ⟨rfl,hx2⟩))
 ·gi_loopw [20] (λi wr=>i=Vi 0 /\ W2=wr) (λ_ _=>0)
  case atStart=>exact ⟨rfl,rfl⟩
  case round =>
   obtain ⟨rfl,rfl⟩:=hrel
   gi_wp2
   go_ret
   exact .inl ⟨rfl,hJ2,hk0.trans hk2⟩
 ·go_ret
  exact .inr ⟨rfl,[s],List.prefix_refl _,hx2⟩
theorem walk_any (l bY bW N B:Nat) (h:Vw) (J Jx:List ByteArray -> World -> Prop) (hJ:AbidesFrom B J)
  (hY:∀ m pre s W,J pre W -> pre.length < N -> YieldAt Fence.wide m Tryz.prog l #[Vt s] W (YieldPost h.w.heap.size J Jx pre s W)) (x:Ex) :
  ∀ (v:Value) (n:Nat) (pre:List ByteArray) (W:World),IsArgs h x v -> WfE x -> Below h.w.heap.size h.w W -> Boxed W bY 77 (.func (.yield l) #[] #[]) -> Boxed W bW 263 (walkV bY bW) -> J pre W -> pre.length + (yX x).length <= N -> 
  CallsIn Fence.wide n Tryz.prog 254 #[.agg #[Vi x.op,Vi x.k,Vi x.n,.string x.s,.string x.nm,v],.pointer (some ⟨bY,0,none⟩),.pointer (some ⟨bW,0,none⟩)] W (WalkPost h.w.heap.size J Jx pre (yX x) W):=by
 refine ex_ind (p:=λx=>∀ (v:Value) (n:Nat) (pre:List ByteArray) (W:World),IsArgs h x v -> WfE x -> Below h.w.heap.size h.w W -> Boxed W bY 77 (.func (.yield l) #[] #[]) -> Boxed W bW 263 (walkV bY bW) -> J pre W -> pre.length + (yX x).length <= N -> 
  CallsIn Fence.wide n Tryz.prog 254 #[.agg #[Vi x.op,Vi x.k,Vi x.n,.string x.s,.string x.nm,v],.pointer (some ⟨bY,0,none⟩),.pointer (some ⟨bW,0,none⟩)] W (WalkPost h.w.heap.size J Jx pre (yX x) W)) (λx ih v n pre W hx hw hb hbY hbW hj hN=>?_) x
 by_cases h2:x.op=2
 ·obtain ⟨e,-⟩:=ref_shape hw h2;obtain ⟨A,n',c,rfl⟩:=hx.slice;have hn0:n'=0:=by
   obtain ⟨vs,hr,hvs⟩:=hx.form;obtain ⟨A',c',e',-⟩:=hr.form;rw [sK hvs.len,ref_args hw h2] at e';simp at e';exact e'.2.1
  subst hn0;rw [e];rw [e,refs_ref] at hN ⊢;exact walk_ref l bY bW N B h.w.heap.size J Jx hJ hY x.nm A c n pre W hb.size hbY hj (by simp at hN; omega)
 ·rw [zX,Bj h2,Uv] at hN ⊢;obtain ⟨vs,hr,hvs⟩:=hx.form;obtain ⟨A,ca,rfl,hc1,hc2,-⟩:=hr.form;have hvl:=hvs.len;have hrl:=sK hvl;rw [hrl] at hc1 hr ⊢;have HR:=Fj hr;have HV:=Fj hvs;have HIH:=Fj ih;have HWL:=Fj hw.list;have HB:=Fj hb;have hop:(x.op == 2)=false:=Lj.2 h2;have hj2:J pre (W.alloc (.cells #[Vi x.op,Vi x.k,Vi x.n,.string x.s,.string x.nm,.slice A x.args.length ca] 47)):=hJ pre W _ none hj (World.grownBy_alloc W _ none) (λr e=>by cases e);have hk0:=Kp.alloc hb.size (.cells #[Vi x.op,Vi x.k,Vi x.n,.string x.s,.string x.nm,.slice A x.args.length ca] 47);clear hx hr hvs hw hb hrl hvl;generalize hL:x.args.length=len at *;unfold maxLen at hc2;refine callsIn_of_wp Tryz.func254 rfl trivial ?_ rfl;simp only [Tryz.ntmps254,Rq,Sk,Fq,Nat.reduceAdd,Nat.reduceSub,Nw,Ow,Pw,Qw,Uv,Xq]
  gi_wp2
  refine ⟨λ_ h=>(by cases h),?_⟩
  gi_wp2
  gi_loopw [20] (λi wr=>∃ k:Nat,k <= len /\ i=Vi k /\ J (pre++aY (x.args.take k)) wr /\ Kp h.w.heap.size W wr) (λi _=>len - (intOf i).toNat)
  case atStart=>exact ⟨0,Mj _,rfl,by simpa [aY] using hj2,hk0⟩
  case round =>
   obtain ⟨k,hk,rfl,hjk,hkk⟩:=hrel
   by_cases hlt:k < len
   ·obtain ⟨y,hy⟩:∃ y,x.args[k]?=some y:=⟨_,Gj (by omega)⟩;obtain ⟨u,hu⟩:∃ u,vs[k]?=some u:=⟨_,Gj (by have:=HV.out.len; omega)⟩;have hyu:=AllArgs.get HV.out hy hu;obtain ⟨Au,nu,cu,rfl⟩:=hyu.slice;have hrow:(rK x.args vs)[k]?=some (exRow y (.slice Au nu cu)):=by show (List.zipWith exRow _ _)[k]?=_; rw [Dw,hy,hu]
    obtain ⟨b,off,rfl,-,hc⟩:=HR.out.row hrow;have hbr:=HB.out.trans hkk.below;have hc:=hc.sees (sees_below hbr);have c0:wr.cell? ⟨b,off + k * 6,none⟩=_:=hc.lies 0 _ rfl;have c1:wr.cell? ⟨b,off + k * 6 + 1,none⟩=_:=hc.lies 1 _ rfl;have c2:wr.cell? ⟨b,off + k * 6 + 2,none⟩=_:=hc.lies 2 _ rfl;have c3:wr.cell? ⟨b,off + k * 6 + 3,none⟩=_:=hc.lies 3 _ rfl;have c4:wr.cell? ⟨b,off + k * 6 + 4,none⟩=_:=hc.lies 4 _ rfl;have c5:wr.cell? ⟨b,off + k * 6 + 5,none⟩=_:=hc.lies 5 _ rfl;clear hc hrow hu;have hym:=Ej hy;have hsn:aY (x.args.take (k + 1))=aY (x.args.take k)++yX y:=by rw [cZ _ k y hy,refsL_app]; simp [aY]
    have hle:(aY (x.args.take (k + 1))).length <= (aY x.args).length:=by
     have:=Dj (λl=>(aY l).length) (Mw (k + 1) x.args)
     simp only [refsL_app,Bk] at this;omega
    rw [hsn,Bk] at hle;have hal:Kp h.w.heap.size wr (wr.alloc (.cells #[Vi y.op,Vi y.k,Vi y.n,.string y.s,.string y.nm,.slice Au nu cu] 47)):=Kp.alloc hbr.size _;have bY2:=(hkk.cells.boxed hbY).alloc (.cells #[Vi y.op,Vi y.k,Vi y.n,.string y.s,.string y.nm,.slice Au nu cu] 47);have bW2:=(hkk.cells.boxed hbW).alloc (.cells #[Vi y.op,Vi y.k,Vi y.n,.string y.s,.string y.nm,.slice Au nu cu] 47);have cW:=bW2.cell;have hcall:=HIH.out y hym (.slice Au nu cu) (n - 1) (pre++aY (x.args.take k)) (wr.alloc (.cells #[Vi y.op,Vi y.k,Vi y.n,.string y.s,.string y.nm,.slice Au nu cu] 47)) hyu (HWL.out.get hym) (hbr.trans hal.below) bY2 bW2
     (hJ _ wr _ none hjk (World.grownBy_alloc wr _ none) (λr e=>by cases e)) (by rw [Bk]; omega)
    have HS:=Fj hsn;clear hsn bY2 bW2
    gi_wp2_with ((try refine ⟨trivial,?_⟩); (try refine ⟨sZ _,?_⟩); gi_at_call 254; refine hcall.mono ?_; clear hcall; rintro e W2 (⟨rfl,hJ2,hk2⟩ | ⟨rfl,q,hq,hx2⟩))
    ·go_roundw
     case rel=>exact ⟨k + 1,by omega,by go_num,by rw [HS.out, <- Lq]; exact hJ2,(hkk.trans hal).trans hk2⟩
     case measure=>simp [intOf]; omega
    ·go_ret
     refine .inr ⟨rfl,aY (x.args.take k)++q,?_,by rw [<- Lq]; exact hx2⟩;have hp:aY (x.args.take (k + 1)) <+: aY x.args:=by
      conv=>rhs; rw [<- Mw (k + 1) x.args,refsL_app]
      exact List.prefix_append _ _
     rw [HS.out] at hp;exact ((List.prefix_append_right_inj _).2 hq).trans hp
   ·obtain rfl:k=len:=by omega
    have hta:x.args.take k=x.args:=by rw [<- hL,Pk]
    rw [hta] at hjk;clear hta
    gi_wp2
    go_ret
    exact .inl ⟨rfl,hjk,hkk⟩
theorem refs_in (x:Ex) (v:Value) (n:Nat) (W:World) :
  CallsIn Fence.wide n Tryz.prog 224 #[.agg #[Vi x.op,Vi x.k,Vi x.n,.string x.s,.string x.nm,v]] W λe W'=>e=.returned (.func (.func 253) #[] #[.pointer (some ⟨W.heap.size,0,none⟩)]) /\ W'=W.alloc (.cells #[Vi x.op,Vi x.k,Vi x.n,.string x.s,.string x.nm,v] 47):=by
 refine callsIn_of_wp Tryz.func224 rfl trivial ?_ rfl;simp only [Tryz.ntmps224,Rq,Sk,Fq,Nat.reduceAdd,Nat.reduceSub,Nw,Ow,Pw,Qw,Uv,Xq]
 gi_wp2
 go_ret
 exact ⟨rfl,rfl⟩
theorem refs_stops (x:Ex) (v:Value) (h:Vw) (hx:IsArgs h x v) (hw:WfE x) (n bX:Nat) (w:World) (hb:Below h.w.heap.size h.w w) (hX:w.heap[bX]?=some (.cells #[Vi x.op,Vi x.k,Vi x.n,.string x.s,.string x.nm,v] 47 (0,0))) :
  SeqStopsK Fence.wide n Tryz.prog 253 #[.pointer (some ⟨bX,0,none⟩)] (λs:ByteArray=>#[Value.string s]) (Kp h.w.heap.size) (λys=>ys=yX x) (λpre=>pre <+: yX x) (yX x).length w:=λl J Jx W hW hJ hJx hY h0=>by
 have hbW:Below h.w.heap.size h.w W:=hb.trans (hW.mono hb.size);have hX':W.heap[bX]?=some (.cells #[Vi x.op,Vi x.k,Vi x.n,.string x.s,.string x.nm,v] 47 (0,0)):=(hW.block bX (Nk.1 hX).1).trans hX;have hxl:=(Nk.1 hX').1;obtain ⟨A,n',c,rfl⟩:=hx.slice;obtain ⟨W1,hW1⟩:∃ W1,W1=W.alloc (.cells #[.func (.yield l) #[] #[]] 77):=⟨_,rfl⟩;have bY1:Boxed W1 W.heap.size 77 (.func (.yield l) #[] #[]):=by rw [hW1]; exact Boxed.new _ _ _
 have z1:W1.heap.size=W.heap.size + 1:=by rw [hW1]; simp
 have b1:Below W.heap.size W W1:=by rw [hW1]; exact (Wj _ _).alloc (Hj _) _
 obtain ⟨W3,hW3⟩:∃ W3,W3=W1.alloc (.cells #[walkV W.heap.size (W.heap.size + 1)] 263):=⟨_,rfl⟩;have bW3:Boxed W3 (W.heap.size + 1) 263 (walkV W.heap.size (W.heap.size + 1)):=by rw [hW3, <- z1]; exact Boxed.new _ _ _
 have bY3:Boxed W3 W.heap.size 77 (.func (.yield l) #[] #[]):=by rw [hW3]; exact bY1.alloc _
 have b3:Below W.heap.size W W3:=by rw [hW3]; exact b1.alloc (by omega) _
 have c0:W.cell? ⟨bX,0,none⟩=some (Vi x.op):=by simp [World.cell?,hX']
 have c1:W.cell? ⟨bX,1,none⟩=some (Vi x.k):=by simp [World.cell?,hX']
 have c2:W.cell? ⟨bX,2,none⟩=some (Vi x.n):=by simp [World.cell?,hX']
 have c3:W.cell? ⟨bX,3,none⟩=some (Vt x.s):=by simp [World.cell?,hX']
 have c4:W.cell? ⟨bX,4,none⟩=some (Vt x.nm):=by simp [World.cell?,hX']
 have c5:W.cell? ⟨bX,5,none⟩=some (.slice A n' c):=by simp [World.cell?,hX']
 have hcall:=walk_any l W.heap.size (W.heap.size + 1) (yX x).length W.heap.size h J Jx hJ
  (λm pre s W hj hl=>YieldAt.mono (YieldAt.anyDepth (show Fence.wide.depth=none from rfl) m (hY pre s W hj hl)) (λe W' q=>q)) x (.slice A n' c) (n - 1) [] W3 hx hw (hbW.trans (b3.mono hbW.size)) bY3 bW3 (hJ [] W W3 none h0 (grown_none b3) (λr e=>by cases e)) (by simp)
 clear hx hw hbW hb hX hX' bY1 bY3 bW3 b1 b3 hY hJ hJx hW;rw [hW3] at hcall;clear hW3;rw [hW1] at hcall;clear hW1 z1 W1 W3;refine callsIn_of_wp Tryz.func253 rfl trivial ?_ rfl;simp only [Tryz.ntmps253,Rq,Sk,Fq,Nat.reduceAdd,Nat.reduceSub,Nw,Ow,Pw,Qw,Uv,Xq]
 gi_wp2_with ((try refine ⟨trivial,?_⟩); (try refine ⟨sZ _,?_⟩); gi_at_call 254; refine hcall.mono ?_; clear hcall; rintro e W4 (⟨rfl,hJ4,-⟩ | ⟨rfl,q,hq,hx4⟩))
 ·go_end0
  exact ⟨⟨_,rfl⟩,.inl ⟨_,rfl,hJ4⟩⟩
 ·go_end0
  exact ⟨⟨_,rfl⟩,.inr ⟨q,hq,hx4⟩⟩
def sidx (s:ByteArray):List (ByteArray × Value) -> Option Nat
 | []=>none
 | (k,_) :: l=>if s == k then some 0 else (sidx s l).map (· + 1)
theorem sidx_none {s:ByteArray}:∀ {l:List (ByteArray × Value)},sidx s l=none -> sget s l=none
 | [],_=>rfl
 | (k,v) :: l,h=>by
  unfold sidx at h;unfold sget
  split at h
  ·cases h
  ·rename_i g;rw [Bj g];exact sidx_none (by simpa using h)
theorem sidx_some {s:ByteArray}:∀ {l:List (ByteArray × Value)} {j:Nat},sidx s l=some j -> ∃ u,l[j]?=some (s,u) /\ (∀ i z,Instr.findNow .string (Vt s) (((xY l).zipIdx z).map λp=>⟨p.1.1,p.1.2,p.2⟩) i=some (some (i + j,u))) /\
  ∀ v t,sget t (l.set j (s,v))=if t=s then some v else sget t l
 | [],j,h=>by cases h
 | (k,u) :: l,j,h=>by
  unfold sidx at h
  split at h
  ·rename_i g;simp only [Yj] at h;subst h;obtain rfl:=(Xk s k).1 g;refine ⟨u,rfl,λi z=>?_,λv t=>?_⟩
   ·simp only [xY,Ik,List.zipIdx_cons];unfold Instr.findNow;have hsn:Instr.sameNow .string (Vt s) (Vt s)=some (s == s):=rfl;simp only [hsn,g,Pv]
   ·rw [List.set_cons_zero];unfold sget
    by_cases e:t=s
    ·rw [Cj e,Cj (by rw [e]; exact g)]
    ·rw [Bj e,Bj (λq=>e ((Xk t s).1 q)),Bj (λq=>e ((Xk t s).1 q))]
  ·rename_i g;obtain ⟨j',hj,rfl⟩:=Zw.1 h;obtain ⟨u',h1,h2,h3⟩:=sidx_some hj;refine ⟨u',by simpa using h1,λi z=>?_,λv t=>?_⟩
   ·simp only [xY,Ik,List.zipIdx_cons];unfold Instr.findNow;have hsn:Instr.sameNow .string (Vt s) (Vt k)=some (s == k):=rfl;simp only [hsn,g];rw [show i + (j' + 1)=i + 1 + j' by omega];exact h2 (i + 1) (z + 1)
   ·rw [List.set_cons_succ];unfold sget;rw [h3 v t]
    by_cases e:t=s
    ·subst e; rw [Bj g,Cj rfl,Cj rfl]
    ·rw [Bj e,Bj e]
theorem sget_snoc {s t:ByteArray} {v:Value}:∀ {l:List (ByteArray × Value)},sget s l=none -> sget t (l++[(s,v)])=if t=s then some v else sget t l
 | [],_=>by
  show (if t == s then some v else none)=_
  by_cases e:t=s
  ·rw [Cj e,Cj ((Xk t s).2 e)]
  ·rw [Bj e,Bj (λq=>e ((Xk t s).1 q))]; rfl
 | (k,u) :: l,h=>by
  unfold sget at h
  split at h
  ·cases h
  ·rename_i g;rw [Xq];unfold sget;rw [sget_snoc h]
   by_cases e:t=s
   ·subst e; rw [Bj g,Cj rfl,Cj rfl]
   ·rw [Bj e,Bj e]
theorem sget_out {s:ByteArray}:∀ {l:List (ByteArray × Value)},sget s l=none -> ∀ q∈l,q.1≠s
 | (k,v) :: l,h,q,hq,e=>by
  unfold sget at h
  split at h
  ·cases h
  ·rename_i g;rcases Tj.1 hq with rfl | hq
   ·exact g ((Xk s k).2 e.symm)
   ·exact sget_out h q hq e
theorem ments_get (es:List (Value × Value)) (i:Nat):(ments es)[i]?=(es[i]?).map λp=>⟨p.1,p.2,i⟩:=by
 unfold ments;rw [Oj,List.getElem?_zipIdx]
 cases es[i]? <;> simp
theorem run_update_str {P:Program} {w:World} {b:Nat} {l:List (ByteArray × Value)} {t kt et:TypeId} {s:ByteArray} {v:Value} (hb:w.heap[b]?=some (iW (xY l))) (ht:P.underlying t=some (.map kt et)) (htd:P.underlying kt=some .string) :
  ∃ l',(Instr.mapUpdate t (.map (some b)) (Vt s) v).run P w=.ok () { w with heap:=w.heap.setIfInBounds b (iW (xY l')) } /\ (∀ t,sget t l'=if t=s then some v else sget t l) /\ ((l.map (·.1)).Nodup -> (l'.map (·.1)).Nodup) /\ ∀ p∈l',p∈l\/p=(s,v):=by
 cases hs:sidx s l with
 | none =>
  have hn:=sidx_none hs;refine ⟨l++[(s,v)],?_,λt=>sget_snoc hn,λhd=>?_,λp hp=>(Qj.1 hp).imp id Pj.1⟩
  rotate_left
  ·rw [Mk,Dq];refine ⟨hd,by simp,λx hx y hy e=>?_⟩;simp only [Ik,List.map_nil,Pj] at hy;subst hy e;obtain ⟨q,hq,e2⟩:=Rj.1 hx;exact sget_out hn q hq e2
  have:=run_update_at (P:=P) (v:=v) hb ht htd (k:=.string s) rfl (mfind_none hn)
  rw [this,show xY (l++[(s,v)])=xY l++[(Vt s,v)] by simp [xY]]
 | some j =>
  obtain ⟨u,h1,h2,h3⟩:=sidx_some hs;refine ⟨l.set j (s,v),?_,h3 v,λhd=>?_,λp hp=>List.mem_or_eq_of_mem_set hp⟩
  rotate_left
  ·have:(l.set j (s,v)).map (·.1)=l.map (·.1):=by
    refine Vq λi=>?_;rw [Oj,Oj,Yv];have hlt:=(Nj.1 h1).1
    by_cases e:j=i
    ·subst e; rw [Cj rfl,Cj hlt,h1]; rfl
    ·rw [Bj e]
   rw [this]; exact hd
  have hf:Instr.findNow .string (Vt s) (ments (xY l)).toArray.toList 0=some (some (j,u)):=by
   have:=h2 0 0
   rw [Gq] at this;exact this
  have hj:(ments (xY l)).toArray[j]?=some ⟨Vt s,u,j⟩:=by
   rw [List.getElem?_toArray,ments_get,xY,Oj,h1]; rfl
  have hk:Go.MapKept.IsKey .string (Vt s):=isKey_of rfl;have hm:(ments (xY l)).toArray.modify j (λe=>{ e with key:=.string s,val:=v })=(ments (xY (l.set j (s,v)))).toArray:=by
   apply Array.ext'
   rw [Array.toList_modify];refine Vq λi=>?_;show _=(ments (xY (l.set j (s,v))))[i]?;rw [List.getElem?_modify,ments_get,ments_get,Oj,Oj,Yv];have hlt:=(Nj.1 h1).1
   by_cases e:j=i
   ·subst e; simp [hlt]
   ·simp [e]
  unfold iW at hb ⊢;unfold Instr.mapUpdate;simp only [Kk,run_underlying ht,Result.andThen,Go.MapKept.run_getObj_map hb,Go.MapKept.run_checkKey htd hk,Go.MapKept.run_findKey htd hf];simp only [hj,Bv,Sw,Go.MapKept.run_keyThatStays hk,Go.MapKept.run_setObj_map _ hb];rw [hm];simp [xY]
open Go.RowKit Go.Shelf
attribute [local go_sem] Oper.semAt_some
section
variable {F:Fence} {n:Nat} {P:Program} {w w':World} {ops:Array Oper} {rest:List Oper} {o:Oper} {a:Act} {Q:Exit -> Act -> World -> Prop}
theorem wpListIn_mapUpdate_at (hg:o.guard=none) (m x v:Operand) (t:TypeId) (hop:o.op=Op.mapUpdate t m x v) {b key val:Value} (hm:a.eval m=b) (hx:a.eval x=key) (hv:a.eval v=val) (hr:(Instr.mapUpdate t b key val).run P w=.ok () w')
  (hK:wpListIn F n P ops Q rest (a.put o.dst undef) w'):wpListIn F n P ops Q (o :: rest) a w:=by
 refine wpListIn_plain hg λK' hK'=>?_;unfold Oper.wpIn;refine ⟨by simp [Oper.about,hop],?_⟩;rw [Oper.semAt_plain F _ _ (by rw [hop]; intro c hc'; cases hc')];simp [execOp,hop,hm,hx,hv,hr,Result.andThen];exact hK' _ _ hK
end
theorem cells_own {A:World} {b:Nat} {o:Obj} (hb:A.heap[b]?=some o) (hc:o.isCells=true) {row:Option Nat} (hr:∀ r,row=some r -> ∃ o:Obj,A.heap[r]?=some o /\ o.isCells=false):some b≠row:=λe=>by
 obtain ⟨o',h1,h2⟩:=hr _ e.symm;rw [hb] at h1
 cases h1; rw [hc] at h2; cases h2
theorem grown_set {W:World} {M:Nat} {o:Obj} (o':Obj) (hm:W.heap[M]?=some o):W.grownBy { W with heap:=W.heap.setIfInBounds M o' } (some M) :=
 ⟨rfl,rfl,rfl,by simp,λk _ ne=>(Go.MapKept.heap_set hm).2 k (λe=>ne (by rw [e]))⟩
def ruleT (op:Int):Option (List Int × Int) :=
 if op=3 then some ([1],1) else if op=4 then some ([2],2) else if op=18 then some ([3],1)
 else if 5 <= op /\ op <= 9 then some ([1,1],1) else if op=10 then some ([3,3],3) else if op=15\/op=16 then some ([2,2],2) else none
def opTy (op:Int) (l:List Int):Int × Int :=
 match ruleT op with
 | some (a,t)=>if l=a then (t,0) else (0,9)
 | none=>if op=17 then (if l.getD 0 0=2 /\ l.getD 1 0=l.getD 2 0 then (l.getD 1 0,0) else (0,9)) else if l.getD 0 0=l.getD 1 0 then (2,0) else (0,9)
mutual
def tyE (f:ByteArray -> Option Int):Ex -> Int × Int
 | .mk op k _ _ nm args =>
  if op=1 then (k,0)
  else if op=2 then (match f nm with | some t=>(t,0) | none=>(0,5))
  else if (tyL f args).2=0 then opTy op (tyL f args).1 else (0,(tyL f args).2)
def tyL (f:ByteArray -> Option Int):List Ex -> List Int × Int
 | []=>([],0)
 | x :: l=>if (tyE f x).2=0 then (if (tyL f l).2=0 then ((tyE f x).1 :: (tyL f l).1,0) else ([],(tyL f l).2)) else ([],(tyE f x).2)
end
theorem tyE_eq (f:ByteArray -> Option Int) (x:Ex):tyE f x =
  if x.op=1 then ((x.k:Int),(0:Int))
  else if x.op=2 then (match f x.nm with | some t=>((t:Int),(0:Int)) | none=>(0,5))
  else if (tyL f x.args).2=0 then opTy x.op (tyL f x.args).1 else (0,(tyL f x.args).2):=by
 obtain ⟨a,b,c,d,e,l⟩:=x;rw [tyE]; rfl
def tyF (fs:List Fd) (s:ByteArray):Option Int:=match fs with
 | []=>none
 | f :: l=>if s == f.name then some f.ty else tyF l s
theorem tyL_get {f:ByteArray -> Option Int}:∀ {l:List Ex} {ts:List Int},tyL f l=(ts,0) -> l.length=ts.length /\ ∀ (i:Nat) (x:Ex),l[i]?=some x -> ∃ t,ts[i]?=some t /\ tyE f x=(t,0)
 | [],ts,h=>by
  rw [tyL] at h;simp only [Kq,Iq] at h;subst h;exact ⟨rfl,λi x hx=>by simp at hx⟩
 | x :: l,ts,h=>by
  rw [tyL] at h
  by_cases h1:(tyE f x).2=0
  ·rw [Cj h1] at h
   by_cases h2:(tyL f l).2=0
   ·rw [Cj h2] at h;simp only [Kq,Iq] at h;subst h;obtain ⟨a,b⟩:=tyL_get (f:=f) (l:=l) (ts:=(tyL f l).1) (Prod.ext rfl h2);refine ⟨by simp [a],λi y hy=>?_⟩
    cases i with
    | zero =>
     simp only [Nx,Yj] at hy;subst hy;exact ⟨_,rfl,Prod.ext rfl h1⟩
    | succ i=>exact b i y (by simpa using hy)
   ·rw [Bj h2] at h;simp only [Kq] at h;exact absurd h.2 h2
  ·rw [Bj h1] at h;simp only [Kq] at h;exact absurd h.2 h1
theorem ty_leaf {fs:List Fd} {g:ByteArray -> Option Int} (hf:∀ f∈fs,g f.name=some f.ty) (r:RawD) (kind:Int):tyE g (yV r fs kind)=(kind,0):=by
 have hc:tyE g (gK kind r)=(kind,0):=by rw [tyE_eq,Cj (show (gK kind r).op=1 from rfl)]; rfl
 unfold yV
 split
 ·rename_i s hs
  split
  ·exact hc
  ·have hm:=Ej hs;obtain ⟨f,hfm,rfl⟩:=Rj.1 hm;obtain ⟨h1,h2⟩:=Jq.1 hfm;rw [tyE_eq,Bj (show ¬ (refE f.name).op=1 by show ¬ (2:Int)=1; decide),Cj (show (refE f.name).op=2 from rfl)];have e:(refE f.name).nm=f.name:=rfl;rw [e,hf f h1];simp at h2;simp [h2]
 ·exact hc
theorem many_types {f:ByteArray -> Option Int} {one:Int -> Nat -> Ex × Nat}:∀ (ks:List Int) (n:Nat),(∀ k∈ks,∀ n,tyE f (one k n).1=(k,0)) -> tyL f (dJ one ks n).1=(ks,0)
 | [],n,_=>by rw [show (dJ one [] n).1=[] from rfl,tyL]
 | k :: ks,n,h=>by
  have h1:=h k (by simp) n;have h2:=many_types (f:=f) ks (one k n).2 (λk' hk=>h k' (by simp [hk]));rw [show (dJ one (k :: ks) n).1=(one k n).1 :: (dJ one ks (one k n).2).1 from rfl,tyL,h1,h2];simp
theorem pick_type (r:RawD) (kind:Int) (h1:1 <= kind) (h3:kind <= 3):opTy (pX r kind).1 (pX r kind).2=(kind,0):=by
 have a0:=sX r.a 6 (by omega);have b0:=sX r.b 7 (by omega);have b1:=rX r.b 7 (by omega);have c0:=sX r.a 3 (by omega);have c1:=rX r.a 3 (by omega);unfold pX
 split
 ·simp [opTy,ruleT]
 ·split
  ·rename_i hk
   split
   ·simp [opTy,ruleT,hk]
   ·split
    ·simp [opTy,ruleT,hk]
    ·have hb:intOps (cJ r.b 7)=5\/intOps (cJ r.b 7)=6\/intOps (cJ r.b 7)=7\/intOps (cJ r.b 7)=8\/intOps (cJ r.b 7)=9:=by
      unfold intOps
      repeat' split
      all_goals omega
     simp only;rcases hb with h | h | h | h | h <;> (rw [h]; simp [opTy,ruleT,hk])
  ·split
   ·rename_i hk
    split
    ·simp [opTy,ruleT,hk]
    ·split
     ·have hb:cJ r.b 7=1\/cJ r.b 7=2:=by omega
      simp only;rcases hb with h | h <;> (rw [h]; simp [opTy,ruleT,hk])
     ·have hb:cJ r.b 7=3\/cJ r.b 7=4\/cJ r.b 7=5\/cJ r.b 7=6:=by omega
      simp only;rcases hb with h | h | h | h <;> (rw [h]; simp [opTy,ruleT,hk])
   ·have hk:kind=3:=by omega
    simp [opTy,ruleT,hk]
theorem ty_op {f:ByteArray -> Option Int} {op:Int} {l:List Ex} {ts:List Int} (h1:op≠1) (h2:op≠2) (h:tyL f l=(ts,0)):tyE f (opE op l)=opTy op ts:=by
 rw [tyE_eq,Bj (show ¬ (opE op l).op=1 from h1),Bj (show ¬ (opE op l).op=2 from h2)];show (if (tyL f l).2=0 then opTy op (tyL f l).1 else (0,(tyL f l).2))=_;rw [h]; simp
theorem ty_gen {fs:List Fd} {g:ByteArray -> Option Int} (hf:∀ f∈fs,g f.name=some f.ty) (l:List RawD):∀ (d:Nat) (kind:Int) (n:Nat),1 <= kind -> kind <= 3 -> tyE g (gJ l fs d kind n).1=(kind,0)
 | 0,kind,n,h1,h3=>ty_leaf hf _ _
 | d + 1,kind,n,h1,h3=>by
  by_cases q:cJ (aJ l n).k 3=0
  ·rw [genE_leaf q]; exact ty_leaf hf _ _
  ·obtain ⟨p1,p2,p3,p4⟩:=pickE_ok (aJ l n) kind h1 h3;have hpt:=pick_type (aJ l n) kind h1 h3;obtain ⟨op,ks,hp⟩:∃ op ks,pX (aJ l n) kind=(op,ks):=⟨(pX (aJ l n) kind).1,(pX (aJ l n) kind).2,by cases pX (aJ l n) kind; rfl⟩;rw [kV q hp];rw [hp] at p1 p2 p4 hpt;simp only at p1 p2 p4 hpt;exact (ty_op (by omega) (by omega) (many_types ks _ (λk hk n=>ty_gen hf l d k n (p4 k hk).1 (p4 k hk).2))).trans hpt
open Go.RowKit Go.Shelf
attribute [local go_sem] Oper.semAt_some
def zF:Fd:=⟨⟨#[]⟩,0,0,zE⟩
@[reducible] def fdVal (f:Fd) (v:Value):Value:=.agg #[Vt f.name,Vi f.kind,Vi f.ty,Vi f.src.op,Vi f.src.k,Vi f.src.n,.string f.src.s,.string f.src.nm,v]
def dn (len c:Nat):List Nat:=(List.range c).map λj=>len - 1 - j
theorem dn_succ (len c:Nat):dn len (c + 1)=dn len c++[len - 1 - c]:=by simp [dn,List.range_succ]
theorem dn_len (len c:Nat):(dn len c).length=c:=by simp [dn]
theorem back_in (A:Option Addr) (len cap:Nat) (n:Nat) (W:World) :
  CallsIn Fence.wide n Tryz.prog 238 #[.slice A len cap] W λe W'=>e=.returned (.func (.func 259) #[] #[.pointer (some ⟨W.heap.size,0,none⟩)]) /\ W'=W.alloc (.cells #[.slice A len cap] 25):=by
 refine callsIn_of_wp Tryz.func238 rfl trivial ?_ rfl;simp only [Tryz.ntmps238,Rq,Sk,Fq,Nat.reduceAdd,Nat.reduceSub,Nw,Ow,Pw,Qw,Uv,Xq]
 gi_wp2
 go_ret
 exact ⟨rfl,rfl⟩
theorem back_stops (fs:List Fd) (vs:List Value) (A:Option Addr) (cap:Nat) (h:Vw) (hr:RS h 9 (.slice A fs.length cap) (xK fs vs)) (hvl:vs.length=fs.length) (hsl:∀ v∈vs,sL v=v) (n bX:Nat) (w:World) (hb:Below h.w.heap.size h.w w) (hX:w.heap[bX]?=some (.cells #[.slice A fs.length cap] 25 (0,0))) :
  SeqStopsK Fence.wide n Tryz.prog 259 #[.pointer (some ⟨bX,0,none⟩)] (λi:Nat=>#[Vi (i:Int),fdVal (fs.getD i zF) (sL (vs.getD i undef))]) (Kp h.w.heap.size) (λys=>ys=dn fs.length fs.length) (λ_=>True) fs.length w:=λl J Jx W hW hJ hJx hY h0=>by
 have hbW:Below h.w.heap.size h.w W:=hb.trans (hW.mono hb.size);have hX':W.heap[bX]?=some (.cells #[.slice A fs.length cap] 25 (0,0)):=(hW.block bX (Nk.1 hX).1).trans hX;have bX':Boxed W bX 25 (.slice A fs.length cap):=hX';have cX:=bX'.cell;obtain ⟨A',cap',e,hc1,hc2,-⟩:=hr.form;rw [zK hvl] at e hc1;simp only [Tk] at e;obtain ⟨rfl,-,rfl⟩:=e;have HR:=Fj hr;have HV:=Fj hvl;have HS:=Fj hsl;have HB:=Fj hbW;have HY:=Fj hY;have HX:=Fj bX';clear hr hvl hsl hbW hb hX hX' hW hY bX';unfold maxLen at hc2;generalize hL:fs.length=len at *;refine callsIn_of_wp Tryz.func259 rfl trivial ?_ rfl;simp only [Tryz.ntmps259,Rq,Sk,Fq,Nat.reduceAdd,Nat.reduceSub,Nw,Ow,Pw,Qw,Uv,Xq]
 gi_wp2
 gi_loopw [3] (λi wr=>∃ k:Nat,k <= len /\ i=Vi ((len:Int) - 1 - k) /\ J (dn len k) wr /\ Kp h.w.heap.size W wr) (λi _=>(intOf i + 1).toNat)
 case atStart=>exact ⟨0,Mj _,by go_num,by simpa [dn] using h0,Kp.refl _ _⟩
 case round =>
  obtain ⟨k,hk,rfl,hjk,hkk⟩:=hrel
  by_cases hlt:k < len
  ·obtain ⟨m,hm⟩:∃ m:Nat,len=m + 1 + k:=⟨len - 1 - k,by omega⟩;have hi:(len:Int) - 1 - k=(m:Int):=by omega
   rw [hi];have hml:m < len:=by omega
   obtain ⟨f,hf⟩:∃ f,fs[m]?=some f:=⟨_,Gj (by omega)⟩;obtain ⟨u,hu⟩:∃ u,vs[m]?=some u:=⟨_,Gj (by have:=HV.out; omega)⟩;have hrow:=yK hf hu;have hrw:=HR.out;obtain ⟨b,off,e,-,hc⟩:=hrw.row hrow;subst e;have hbr:=HB.out.trans hkk.below;have hc:=hc.sees (sees_below hbr);have c0:wr.cell? ⟨b,off + m * 9,none⟩=_:=hc.lies 0 _ rfl;have c1:wr.cell? ⟨b,off + m * 9 + 1,none⟩=_:=hc.lies 1 _ rfl;have c2:wr.cell? ⟨b,off + m * 9 + 2,none⟩=_:=hc.lies 2 _ rfl;have c3:wr.cell? ⟨b,off + m * 9 + 3,none⟩=_:=hc.lies 3 _ rfl;have c4:wr.cell? ⟨b,off + m * 9 + 4,none⟩=_:=hc.lies 4 _ rfl;have c5:wr.cell? ⟨b,off + m * 9 + 5,none⟩=_:=hc.lies 5 _ rfl;have c6:wr.cell? ⟨b,off + m * 9 + 6,none⟩=_:=hc.lies 6 _ rfl;have c7:wr.cell? ⟨b,off + m * 9 + 7,none⟩=_:=hc.lies 7 _ rfl;have c8:wr.cell? ⟨b,off + m * 9 + 8,none⟩=_:=hc.lies 8 _ rfl;have cX:=(hkk.cells.boxed HX.out).cell;obtain ⟨fn,tmps,assign,body,hy,hRd⟩:=HY.out (dn len k) m wr hjk (by rw [dn_len]; omega);have hR2:=hRd.mono (R':=λe W2=>(e=.returned (.bool true) /\ J (dn len (k + 1)) W2 /\ Kp h.w.heap.size W W2)\/(e=.returned (.bool false) /\ Jx (dn len (k + 1)) W2))
    (λe W2 q=>by
     rw [dn_succ,show len - 1 - k=m by omega];exact q.elim (λ⟨a,b,c⟩=>.inl ⟨a,b,hkk.trans c⟩) .inr)
   have e1:fs.getD m zF=f:=by rw [Uk,hf]; rfl
   have e2:vs.getD m undef=u:=by rw [Uk,hu]; rfl
   have e3:=HS.out u (Ej hu);rw [e1,e2,e3] at hy;have HJ:=Fj hjk;have HK:=Fj hkk;have HM:=Fj hm;clear hc hrow hrw hRd hjk hkk hf hu e1 e2 e3 hbr hi hm
   gi_wp2_with ((try refine ⟨sZ _,?_⟩); refine hR2.mono ?_; clear hR2; rintro e W2 (⟨rfl,hJ2,hk2⟩ | ⟨rfl,hx2⟩))
   ·go_roundw
    case rel=>exact ⟨k + 1,by omega,by have:=HM.out; go_num,hJ2,hk2⟩
    case measure=>simp [intOf] <;> omega
   ·(try simp only [Exit.inBlock,Exit.then]); refine bodyPost_ret (results_none rfl _ _ _) rfl ?_
    exact ⟨⟨_,rfl⟩,.inr ⟨_,trivial,hx2⟩⟩
  ·obtain rfl:k=len:=by omega
   have hi:(k:Int) - 1 - k = -1:=by omega
   rw [hi];clear hi
   gi_wp2
   go_end0
   exact ⟨⟨_,rfl⟩,.inl ⟨_,rfl,hjk⟩⟩
def lastT (fs:List Fd) (s:ByteArray) (pre:List Nat):Option Value:=pre.foldl (λo i=>if s=(fs.getD i zF).name then some (Vi (fs.getD i zF).ty) else o) none
theorem lastT_snoc (fs:List Fd) (s:ByteArray) (pre:List Nat) (i:Nat):lastT fs s (pre++[i])=if s=(fs.getD i zF).name then some (Vi (fs.getD i zF).ty) else lastT fs s pre:=by
 unfold lastT;rw [Rw]; rfl
theorem lastT_dn (fs:List Fd) (s:ByteArray):∀ c,c <= fs.length -> lastT fs s (dn fs.length c)=(tyF (fs.drop (fs.length - c)) s).map (.int .i64)
 | 0,_=>by rw [Nat.sub_zero,List.drop_length]; rfl
 | c + 1,hc=>by
  rw [dn_succ,lastT_snoc,lastT_dn fs s c (by omega)];obtain ⟨f,hf⟩:∃ f,fs[fs.length - 1 - c]?=some f:=⟨_,Gj (by omega)⟩;have e1:fs.getD (fs.length - 1 - c) zF=f:=by rw [Uk,hf]; rfl
  have e2:fs.drop (fs.length - (c + 1))=f :: fs.drop (fs.length - c):=by
   obtain ⟨hlt,he⟩:=Nj.1 hf;rw [show fs.length - (c + 1)=fs.length - 1 - c by omega,Tv hlt,he,show fs.length - 1 - c + 1=fs.length - c by omega]
  rw [e1,e2]
  conv=>rhs; unfold tyF
  by_cases e:s=f.name
  ·rw [Cj e,Cj ((Xk s f.name).2 e)]; rfl
  ·rw [Bj e,Bj (λq=>e ((Xk s f.name).1 q))]
theorem types_in (fs:List Fd) (vs:List Value) (A:Option Addr) (cap:Nat) (h:Vw) (hr:RS h 9 (.slice A fs.length cap) (xK fs vs)) (hvl:vs.length=fs.length) (hsl:∀ v∈vs,sL v=v) (n:Nat) (hn:3 <= n) :
  CallsIn Fence.wide n Tryz.prog 205 #[.slice A fs.length cap] h.w (λe W'=>e=.returned (.map (some h.w.heap.size)) /\ (∃ l,W'.heap[h.w.heap.size]?=some (iW (xY l)) /\ ∀ s,sget s l=(tyF fs s).map (.int .i64)) /\ Below h.w.heap.size h.w W'):=by
 have h1:1 <= n:=by omega
 obtain ⟨M,hM⟩:∃ M,M=h.w.heap.size:=⟨_,rfl⟩;obtain ⟨W1,hW1⟩:∃ W1,W1=h.w.alloc (.map #[] 0):=⟨_,rfl⟩;obtain ⟨W2,hW2⟩:∃ W2,W2=W1.alloc (.cells #[.map (some M)] 285):=⟨_,rfl⟩;obtain ⟨W3,hW3⟩:∃ W3,W3=W2.alloc (.cells #[.slice A fs.length cap] 25):=⟨_,rfl⟩;have z1:W1.heap.size=M + 1:=by rw [hW1,hM]; simp
 have z2:W2.heap.size=M + 1 + 1:=by rw [hW2,World.size_alloc,z1]
 have z3:W3.heap.size=M + 1 + 1 + 1:=by rw [hW3,World.size_alloc,z2]
 have m1:W1.heap[M]?=some (iW (xY [])):=by rw [hW1,hM]; exact (Kw _ _).1
 have m2:W2.heap[M]?=some (iW (xY [])):=by rw [hW2]; exact ((Kw _ _).2 _ (by omega)).trans m1
 have m3:W3.heap[M]?=some (iW (xY [])):=by rw [hW3]; exact ((Kw _ _).2 _ (by omega)).trans m2
 have b2:Boxed W2 (M + 1) 285 (.map (some M)):=by rw [hW2, <- z1]; exact Boxed.new _ _ _
 have b3:Boxed W3 (M + 1) 285 (.map (some M)):=by rw [hW3]; exact b2.alloc _
 have x3:W3.heap[M + 1 + 1]?=some (.cells #[.slice A fs.length cap] 25 (0,0)):=by rw [hW3, <- z2]; exact World.alloc_heap_new _ _
 have hB3:Below M h.w W3:=by
  rw [hW3,hW2,hW1,hM];exact (((Wj _ h.w).alloc (Hj _) _).alloc (by simp) _).alloc (by simp; omega) _
 refine callsIn_of_wp_marks Tryz.func205 rfl trivial ?_ rfl;simp only [Tryz.ntmps205,Rq,Sk,Fq,Nat.reduceAdd,Nat.reduceSub,Nw,Ow,Pw,Qw,Uv,Xq];have HR:=Fj hr;have HV:=Fj hvl;have HS:=Fj hsl;have HX:=Fj x3;have HM3:=Fj m3;have HB:=Fj hB3;have HB3:=Fj b3;have HZ:=Fj z3;clear hr hvl hsl x3 m1 m2 m3 b2 b3 hB3 z1 z2 z3;rw [<- hM]
 gi_wp2
 simp only [run_makeMap,Result.andThen, <- hM, <- hW1]
 gi_wp2_with ((try refine ⟨trivial,?_⟩); (try refine ⟨sZ _,?_⟩); gi_at_call 238; refine (back_in A fs.length cap (n - 1) _).mono ?_; rintro e w' ⟨rfl,rfl⟩)
 rw [<- hM, <- hW1, <- hW2, <- hW3];clear hW1 hW2 hW3 W1 W2;subst hM;have hsz:=HZ.out;clear HZ;refine wpIn_rangeFunc_ownH (α:=Nat) rfl h1 (gf:=259) (lb:=#[.pointer (some ⟨h.w.heap.size + 1 + 1,0,none⟩)]) rfl trivial (enters_of Tryz.func259 (by kernel_rfl) rfl)
  (back_stops fs vs A cap h HR.out HV.out HS.out (n - 1) (h.w.heap.size + 1 + 1) W3 HB.out HX.out) kp_t (kp_b HB.out.size) (Wj _ _) (λ_=>rfl)
  (λpre W=>((∃ l,W.heap[h.w.heap.size]?=some (iW (xY l)) /\ ∀ s,sget s l=lastT fs s pre) /\ Boxed W (h.w.heap.size + 1) 285 (.map (some h.w.heap.size))) /\ Below h.w.heap.size h.w W)
  (λ_ _ W=>False /\ Below h.w.heap.size h.w W)
  (OwnFrom.and (λs A B row hs hg hr=>⟨by
    obtain ⟨l,h2,h3⟩:=hs.1;exact ⟨l,(hg.block _ (Nk.1 h2).1 (λe=>by have:=(hr _ e.symm).1; omega)).trans h2,h3⟩,hs.2.kept hg (cells_own hs.2 rfl (λr e=>(hr r e).2))⟩) (ownFrom_below (Hj _) (by omega)))
  (λc=>OwnFrom.and (λs A B row hs hg hr=>hs) (ownFrom_below (Hj _) (by omega)))
  ⟨⟨⟨[],HM3.out,λ_=>rfl⟩,HB3.out⟩,HB.out⟩
  (λi a' W=>∃ b,W.heap[b]?=some (.cells (fdRow (fs.getD i zF) (sL (vs.getD i undef))).toArray 49 (0,0)) /\ a'={ tmps:=#[Value.slice A fs.length cap,undef,Value.map none,.pointer (some ⟨h.w.heap.size + 1,0,none⟩),undef,.pointer (some ⟨b,0,none⟩),.map (some h.w.heap.size),.slice A fs.length cap,.func (.func 259) #[] #[.pointer (some ⟨h.w.heap.size + 1 + 1,0,none⟩)],Vi (i:Int),fdVal (fs.getD i zF) (sL (vs.getD i undef)),undef,undef,undef,undef,undef,undef],defers:=[] })
  (λi a' s A B row hs hg hr=>by
   obtain ⟨b,h2,h3⟩:=hs;refine ⟨b,(hg.block _ (Nk.1 h2).1 (λe=>?_)).trans h2,h3⟩;obtain ⟨-,o,ho,hc⟩:=hr _ e.symm;rw [h2] at ho; cases ho; cases hc) ?assign ?body ?done ?stop
 case assign =>
  intro l pre i W K hI hK;have hk0:=Kp.alloc hI.2.size (.cells (fdRow (fs.getD i zF) (sL (vs.getD i undef))).toArray 49);have hb0:=hI.2.trans hk0.below;have hI2:=(hI.1.2.alloc (.cells (fdRow (fs.getD i zF) (sL (vs.getD i undef))).toArray 49));have hm2:(W.alloc (.cells (fdRow (fs.getD i zF) (sL (vs.getD i undef))).toArray 49)).heap[h.w.heap.size]?=W.heap[h.w.heap.size]?:=(Kw W _).2 _ (by
   obtain ⟨l,h2,-⟩:=hI.1.1;exact (Nk.1 h2).1)
  have hx2:=World.alloc_heap_new W (.cells (fdRow (fs.getD i zF) (sL (vs.getD i undef))).toArray 49);have HK:=hK _ _ ((KeepsOthers.alloc W (.cells (fdRow (fs.getD i zF) (sL (vs.getD i undef))).toArray 49)).from _) hk0 ⟨⟨by rw [hm2]; exact hI.1.1,hI2⟩,hb0⟩ ⟨_,hx2,rfl⟩;clear hK hI hk0 hb0 hI2 hm2 hx2;generalize fs.getD i zF=f at *;generalize vs.getD i undef=u at *
  gi_wp2
  exact HK
 case body =>
  rintro l pre i a' W hl - ⟨⟨⟨lm,hm,hg⟩,hbx⟩,hB⟩ ⟨b,hb,rfl⟩ hpl;obtain ⟨l2,hu,hg2,-,-⟩:=run_update_str (P:=Tryz.prog) (t:=285) (s:=(fs.getD i zF).name) (v:=Vi (fs.getD i zF).ty) hm Tryz.underlying285 Tryz.underlying9;have cM:=hbx.cell;have c0:W.cell? ⟨b,0,none⟩=some (Vt (fs.getD i zF).name):=by simp [World.cell?,hb]
  have c2:W.cell? ⟨b,2,none⟩=some (Vi (fs.getD i zF).ty):=by simp [World.cell?,hb]
  have hgr:=grown_set (iW (xY l2)) hm;have hset:=(Go.MapKept.heap_set (o':=iW (xY l2)) hm).1;have hml:=(Nk.1 hm).1;have hbl:Below h.w.heap.size W _:=(Wj h.w.heap.size W).grown hgr hB.size (λk e=>by cases e; exact Hj _);have hkc:=KeepsCells.grown hgr (λr e=>by cases e; exact ⟨_,hm,rfl⟩);have hfin:∀ s,sget s l2=lastT fs s (pre++[i]):=λs=>by rw [hg2 s,lastT_snoc,hg s]
  have hex:∃ l,({ W with heap:=W.heap.setIfInBounds h.w.heap.size (iW (xY l2)) }:World).heap[h.w.heap.size]?=some (iW (xY l)) /\ ∀ s,sget s l=lastT fs s (pre++[i]):=⟨l2,hset,hfin⟩;have HF:=Fj (Aj (KeepsFrom.of_grownBy (B:=W3.heap.size) hgr (λj e=>by cases e; omega)) (Aj (Kp.mk hbl hkc) (Aj (Aj hex (hkc.boxed hbx)) (hB.trans hbl))));clear hex hgr hset hml hbl hkc hfin hg hg2 hB hm hb hbx;generalize fs.getD i zF=f at *;generalize vs.getD i undef=u at *
  gi_wp2_with (first | (gi_at_mapUpdate; refine wpListIn_mapUpdate_at rfl _ _ _ 285 rfl rfl rfl rfl hu ?_) | gi_in)
  have hfo:=HF.out;rw [hsz] at hfo;exact ⟨hfo.1,hfo.2.1,hfo.2.2⟩
 case done =>
  rintro D ys W hD rfl ⟨⟨⟨l,hm,hg⟩,hbx⟩,hB⟩ hK;have cM:=hbx.cell;have hfin:∀ s,sget s l=(tyF fs s).map (.int .i64):=λs=>by rw [hg s,lastT_dn fs s _ (Hj _),Cw,List.drop_zero]
  have HF:=Fj (Aj hm (Aj hfin hB));clear hg hfin hB hbx hm
  gi_wp2
  refine ⟨by simp,.inl ⟨_,_,rfl,run_takeDeferred hK,?_⟩⟩;obtain ⟨f1,f2,f3⟩:=HF.out;have hml:=(Nk.1 f1).1;have hp:(W.putObj D (.deferred none)).heap[h.w.heap.size]?=some (iW (xY l)):=(World.putObj_heap_other (by omega)).trans f1;refine ⟨.map (some h.w.heap.size),?_,rfl,⟨l,hp,f2⟩,f3.trans (belowK_b (w:=h.w) (Hj _) _ D _ _ (by omega) hK rfl rfl)⟩;simp [results,Tryz.f205,go_sem]
 case stop =>
  rintro D c pre W hD - ⟨hf,-⟩;exact hf.elim
open Go.RowKit Go.Shelf
def TypesAt (h:Vw) (b:Nat) (f:ByteArray -> Option Int):Prop:=∃ l,MapAt h b (xY l) /\ ∀ s,sget s l=(f s).map (.int .i64)
theorem TypesAt.sees {h h':Vw} {b:Nat} {f:ByteArray -> Option Int} (k:TypesAt h b f) (s:Sees h h'):TypesAt h' b f:=by
 obtain ⟨l,h1,h2⟩:=k;exact ⟨l,h1.sees s,h2⟩
theorem types_any (fs:List Fd) (v:Value) (h:Vw) (hf:IsFds h v fs):C0 Tryz.prog 205 #[v] h (λr h'=>∃ b,r=.map (some b) /\ TypesAt h' b (tyF fs)):=by
 intro _ _ _ hbad;obtain ⟨vs,hr,hs⟩:=hf;have hvl:=hs.len;obtain ⟨A,cap,rfl,-,-,-⟩:=hr.form;rw [zK hvl] at hr ⊢;have hsl:∀ v∈vs,sL v=v:=λv hv=>by
  obtain ⟨i,hi⟩:=Bq hv;have hlt:=(Nj.1 hi).1;obtain ⟨x,hx⟩:∃ x,(fs.map (·.src))[i]?=some x:=⟨_,Gj (by rw [Ij]; omega)⟩;obtain ⟨A,n,c,rfl⟩:=(AllArgs.get hs hx hi).slice
  rfl
 refine (callsIn_wide.1 (types_in fs vs A cap h hr hvl hsl 9 (by omega))).mono ?_;rintro e w' ⟨rfl,⟨l,h1,h2⟩,hb⟩;exact ⟨_,[],rfl,Low.of_below hb,(λx hx=>by cases hx),rfl,_,rfl,l,⟨λhm=>Nat.lt_irrefl _ (hbad _ hm),h1⟩,h2⟩
def RulesAt (h:Vw) (b:Nat):Prop:=∃ es,MapAt h b (qV es) /\ ∀ op,match ruleT op with
 | some (a,t)=>∃ A n c,iget op es=some (.agg #[.slice A n c,Vi t]) /\ RS h 1 (.slice A n c) (rV a)
 | none=>iget op es=none
theorem RulesAt.sees {h h':Vw} {b:Nat} (k:RulesAt h b) (s:Sees h h'):RulesAt h' b:=by
 obtain ⟨es,h1,h2⟩:=k;refine ⟨es,h1.sees s,λop=>?_⟩
 have:=h2 op
 split at this
 ·obtain ⟨A,n,c,h3,h4⟩:=this;exact ⟨A,n,c,h3,h4.sees s⟩
 ·exact this
def rulesL (A B C:Value × Value):List (Int × Value) :=
 [(3,.agg #[A.2,Vi 1]),(4,.agg #[B.2,Vi 2]),(18,.agg #[C.2,Vi 1]),(5,.agg #[A.1,Vi 1]),(6,.agg #[A.1,Vi 1]),(7,.agg #[A.1,Vi 1]),(8,.agg #[A.1,Vi 1]),(9,.agg #[A.1,Vi 1]),
  (10,.agg #[C.1,Vi 3]),(15,.agg #[B.1,Vi 2]),(16,.agg #[B.1,Vi 2])]
theorem rules_get {es:List (Int × Value)} {A B C:Value × Value} (hn:(es.map (·.1)).Nodup) (he:∀ k v,(k,v)∈es↔(k,v)∈rulesL A B C) (op:Int):iget op es=iget op (rulesL A B C):=by
 have hnl:((rulesL A B C).map (·.1)).Nodup:=by simp [rulesL]
 cases h:iget op (rulesL A B C) with
 | some v =>
  have hm:∀ {l:List (Int × Value)},iget op l=some v -> (op,v)∈l:=by
   intro l
   induction l with
   | nil=>intro h; cases h
   | cons p l ih =>
    obtain ⟨k,u⟩:=p;intro h;unfold iget at h
    split at h
    ·rename_i e; simp only [Yj] at h; subst e h; simp
    ·exact Gk _ (ih h)
  exact iget_mem hn ((he op v).2 (hm h))
 | none =>
  refine iget_none λhm=>?_;obtain ⟨⟨k,v⟩,hm2,rfl⟩:=Rj.1 hm;rw [iget_mem hnl ((he k v).1 hm2)] at h
  cases h
theorem rules_any (h:Vw):C0 Tryz.prog 206 #[] h (λr h'=>∃ b,r=.map (some b) /\ RulesAt h' b):=by
 refine pQ Tryz.func206 λhbx hbad Q hQ=>?_;refine gov3 16 [.fix,.fix,.fix] [] ?_;intro b1 b2 b3 W4 S5;refine wQ [(1,Vs b1 2 2),(2,Vs b2 2 2),(3,Vs b3 2 2)] [] [(b3,0,[Vi 3,Vi 3]),(b2,0,[Vi 2,Vi 2]),(b1,0,[Vi 1,Vi 1])] ?_;refine g_maplit 287 [.mk 7,.pu 8 (Vs b1 2 2),.pu 9 (Vs b1 1 2),.pu 10 (.agg #[Vs b1 1 2,Vi 1]),.ins 3 (.agg #[Vs b1 1 2,Vi 1]),.pu 11 (Vs b2 2 2),.pu 12 (Vs b2 1 2),.pu 13 (.agg #[Vs b2 1 2,Vi 2]),.ins 4 (.agg #[Vs b2 1 2,Vi 2]),.pu 14 (Vs b3 2 2),.pu 15 (Vs b3 1 2),.pu 16 (.agg #[Vs b3 1 2,Vi 1]),.ins 18 (.agg #[Vs b3 1 2,Vi 1]),.pu 17 (Vs b1 2 2),.pu 18 (.agg #[Vs b1 2 2,Vi 1]),.ins 5 (.agg #[Vs b1 2 2,Vi 1]),.pu 19 (Vs b1 2 2),.pu 20 (.agg #[Vs b1 2 2,Vi 1]),.ins 6 (.agg #[Vs b1 2 2,Vi 1]),.pu 21 (Vs b1 2 2),.pu 22 (.agg #[Vs b1 2 2,Vi 1]),.ins 7 (.agg #[Vs b1 2 2,Vi 1]),.pu 23 (Vs b1 2 2),.pu 24 (.agg #[Vs b1 2 2,Vi 1]),.ins 8 (.agg #[Vs b1 2 2,Vi 1]),.pu 25 (Vs b1 2 2),.pu 26 (.agg #[Vs b1 2 2,Vi 1]),.ins 9 (.agg #[Vs b1 2 2,Vi 1]),.pu 27 (Vs b3 2 2),.pu 28 (.agg #[Vs b3 2 2,Vi 3]),.ins 10 (.agg #[Vs b3 2 2,Vi 3]),.pu 29 (Vs b2 2 2),.pu 30 (.agg #[Vs b2 2 2,Vi 2]),.ins 15 (.agg #[Vs b2 2 2,Vi 2]),.pu 31 (Vs b2 2 2),.pu 32 (.agg #[Vs b2 2 2,Vi 2]),.ins 16 (.agg #[Vs b2 2 2,Vi 2]),.mv 33,.mv 0] ?_ Tryz.underlying287 Tryz.underlying3; intro b6 es7 hes8 hnd9;refine go0 2 [] [] ?_;refine hQ.toJ [.map (some b6)] [] (λa w hJ=>?_);skip;have c1:Cells ⟨w,h.bad⟩ b1 0 [Vi 1,Vi 1]:=(hJ.f (_,_,_) (Ej (i:=2) (by kernel_rfl))).sees hJ.j.out;have c2:Cells ⟨w,h.bad⟩ b2 0 [Vi 2,Vi 2]:=(hJ.f (_,_,_) (Ej (i:=1) (by kernel_rfl))).sees hJ.j.out;have c3:Cells ⟨w,h.bad⟩ b3 0 [Vi 3,Vi 3]:=(hJ.f (_,_,_) (Ej (i:=0) (by kernel_rfl))).sees hJ.j.out;have n2:=rs_ints [1,1] (by decide) c1;have t2:=rs_ints [2,2] (by decide) c2;have s2:=rs_ints [3,3] (by decide) c3;have n1:=n2.take 1 (by decide);have t1:=t2.take 1 (by decide);have s1:=s2.take 1 (by decide);refine ⟨b6,rfl,es7,hJ.mapOut 0 (by kernel_rfl) rfl,λop=>?_⟩;rw [rules_get (A:=(.slice (some ⟨b1,0,none⟩) 2 2,.slice (some ⟨b1,0,none⟩) 1 2)) (B:=(.slice (some ⟨b2,0,none⟩) 2 2,.slice (some ⟨b2,0,none⟩) 1 2)) (C:=(.slice (some ⟨b3,0,none⟩) 2 2,.slice (some ⟨b3,0,none⟩) 1 2)) hnd9 (λk v=>by
  rw [hes8];simp [rulesL])]
 clear hJ hes8 hnd9;unfold ruleT
 by_cases e3:op=3
 ·subst e3; exact ⟨_,_,_,rfl,n1⟩
 by_cases e4:op=4
 ·subst e4; exact ⟨_,_,_,rfl,t1⟩
 by_cases e18:op=18
 ·subst e18; exact ⟨_,_,_,rfl,s1⟩
 by_cases e5:5 <= op /\ op <= 9
 ·rcases (by omega:op=5\/op=6\/op=7\/op=8\/op=9) with rfl | rfl | rfl | rfl | rfl <;> exact ⟨_,_,_,rfl,n2⟩
 by_cases e10:op=10
 ·subst e10; exact ⟨_,_,_,rfl,s2⟩
 by_cases e15:op=15
 ·subst e15; exact ⟨_,_,_,rfl,t2⟩
 by_cases e16:op=16
 ·subst e16; exact ⟨_,_,_,rfl,t2⟩
 rw [Bj e3,Bj e4,Bj e18,Bj e5,Bj e10,Bj (by omega)];simp only;unfold rulesL iget;simp only [iget];rw [Bj e3,Bj e4,Bj e18,Bj (by omega),Bj (by omega),Bj (by omega),Bj (by omega),Bj (by omega),Bj e10,Bj e15,Bj e16]
theorem equal_any (l m:List Int) (sl sl':Value) (h:Vw) (hr:RS h 1 sl (rV l)) (hr':RS h 1 sl' (rV m)):C0 Tryz.prog 237 #[sl,sl'] h (λr _=>r=.bool (decide (l=m))):=by
 obtain ⟨A,ca,rfl,l1,l2,-⟩:=hr.form;obtain ⟨A',ca',rfl,-,-,-⟩:=hr'.form;rw [Ij] at hr hr' l1 ⊢;unfold maxLen at l2;rw [Ij]
 by_cases hlm:l.length=m.length
 rotate_left
 ·rw [Kj (λe=>hlm (by rw [e]))];generalize hL:l.length=len at *;generalize hL':m.length=len' at *;refine pQ Tryz.func237 λhbx hbad Q hQ=>?_;refine go0 15 [] [] ?_;refine jV (t:=(len:Int) != (len':Int)) (Hk.2 (by omega)) ?_;refine go0 7 [] [] ?_;refine hQ.to [.bool false] (λH sH=>?_);exact rfl
 ·rw [<- hlm] at hr' ⊢;have hml:m.length=l.length:=hlm.symm;clear hlm;generalize hL:l.length=len at *;refine pQ Tryz.func237 λhbx hbad Q hQ=>?_;refine go0 27 [] [(10,.bool ((len:Int) != (len:Int)),.bool false)] ?_ (hc:=(Aj (Dj Value.bool (bne_self_eq_false _)) (trivial)));refine yQ [0,1,0,1,1] [.block 0,.seq [1,1,1]] (λ(k:Nat) X=>∃ (W1:Vw) ,X W1 [(0,.slice A len ca),(1,.slice A' len ca'),(12,Vi (len:Int)),(13,Vi (k:Int))] [] [] /\ Sees h W1 /\ (k <= len) /\ (l.take k=m.take k)) (λk=>len - k) (0) (λX q=>⟨h,q _ _ _ _ ⟨rfl,by kernel_rfl⟩,Sees.refl _,Mj _,rfl⟩) ?_;rintro k a w ⟨W1,hJ,S2,hk,hpre⟩; refine dV hJ ?_; clear hJ a w;refine go0 6 [] [] ?_;rcases (by omega:k < len\/len=k) with hlt | hke
  ·obtain ⟨x,hx⟩:∃ x,l[k]?=some x:=⟨_,Gj (by omega)⟩;obtain ⟨y,hy⟩:∃ y,m[k]?=some y:=⟨_,Gj (by omega)⟩;have hrow:(rV l)[k]?=some [Vi x]:=by rw [Oj,hx]; rfl
   have hrow':(rV m)[k]?=some [Vi y]:=by rw [Oj,hy]; rfl
   refine jV (t:=decide ((k:Int) < (len:Int))) (Jj (by omega)) ?_;refine go0 11 [] [] ?_;obtain ⟨b3,o4,rfl,-,c5⟩:=RS.row hr (hrow);refine qQ (c5.sees S2) ?_;obtain ⟨b6,o7,rfl,-,c8⟩:=RS.row hr' (hrow');refine qQ (c8.sees S2) ?_;refine fV 9 0 [.pu,.pu,.v (λgh=>.pointer (some ⟨b3,o4 + k * 1,none⟩)),.lf 1 0,.pu,.pu,.v (λgh=>.pointer (some ⟨b6,o7 + k * 1,none⟩)),.lf 0 0,.pu] [] (trivial) ?_ ?_
   ·intro R hT hA hmono;refine Aj (bZ hT hA b3 o4 len ca k (λgh=>.pointer (some ⟨b3,o4 + k * 1,none⟩)) (by first | omega | (simp; omega))) ?_;refine Aj (bZ hT hA b6 o7 len ca' k (λgh=>.pointer (some ⟨b6,o7 + k * 1,none⟩)) (by first | omega | (simp; omega))) ?_
    trivial
   rintro W9 S10 -;refine go0 1 [] [] ?_
   by_cases e:x=y
   ·refine tQ (t:=x != y) (Rk.2 e) ?_;refine go0 7 [] [(25,Vi (IntKind.i64.wrap ((k:Int) + 1)),Vi ((k:Int) + 1))] ?_ (hc:=(Aj (jJ (by omega) (by omega)) (trivial)));exact iV (k + 1) (λX q=>⟨W9,q _ _ _ _ ⟨rfl,by kernel_rfl⟩,(S2.trans S10),by omega,by rw [cZ _ k _ hx,cZ _ k _ hy,hpre,e]⟩)
   ·skip;refine jV (t:=x != y) (Hk.2 e) ?_
    refine go0 8 [] [] ?_;refine xQ ?_;refine go0 2 [] [] ?_;have hne:¬ l=m:=λq=>e (by rw [q,hy] at hx; exact (Dk hx).symm);refine hQ.to [.bool false] (λH sH=>?_);exact Dj Value.bool (Kj hne).symm
  ·skip;refine tQ (t:=decide ((k:Int) < (len:Int))) (Kj (by omega)) ?_
   refine go0 2 [] [] ?_;refine xQ ?_;refine go0 8 [] [] ?_;have heq:l=m:=by
    have h1:l.take k=l:=Lv (by omega);have h2:m.take k=m:=Lv (by omega);rw [<- h1, <- h2,hpre]
   refine hQ.to [.bool true] (λH sH=>?_);exact Dj Value.bool (Jj heq).symm
def tysE (f:ByteArray -> Option Int) (l:List Ex):List Int:=l.map λy=>(tyE f y).1
theorem tyL_all {f:ByteArray -> Option Int}:∀ {l:List Ex},(∀ y∈l,(tyE f y).2=0) -> tyL f l=(tysE f l,0)
 | [],_=>by rw [tyL]; rfl
 | x :: l,h=>by
  have h1:=h x (by simp);have h2:=tyL_all (f:=f) (l:=l) (λy hy=>h y (by simp [hy]));rw [tyL,h2,Cj h1]; simp [tysE]
theorem tyL_err {f:ByteArray -> Option Int}:∀ {l:List Ex} {k:Nat} {y:Ex},l[k]?=some y -> (∀ z∈l.take k,(tyE f z).2=0) -> (tyE f y).2≠0 -> (tyL f l).2=(tyE f y).2
 | [],k,y,h,_,_=>by simp at h
 | x :: l,0,y,h,_,he=>by
  simp only [Nx,Yj] at h;subst h;rw [tyL,Bj he]
 | x :: l,k + 1,y,h,hp,he=>by
  simp only [List.getElem?_cons_succ] at h;have h1:=hp x (by simp);have h2:=tyL_err (f:=f) h (λz hz=>hp z (by simp [hz])) he;rw [tyL,Cj h1,Bj (by rw [h2]; exact he)];exact h2
theorem ret2 {p:Int × Int} {a b:Int} (h:p=(a,b)):Value.tuple #[Vi a,Vi b]=.tuple #[Vi p.1,Vi p.2]:=by rw [h]
theorem rule_none {op:Int} (h1:3 <= op) (h2:op <= 18) (h:ruleT op=none):op=17\/(op≠17 /\ 11 <= op /\ op <= 14):=by
 unfold ruleT at h
 repeat' split at h
 all_goals first | (cases h; done) | omega
theorem arity_le (op:Int):arity op <= 3:=by
 unfold arity
 repeat' split
 all_goals omega
theorem tyof_any (f:ByteArray -> Option Int) (fb rb:Nat):∀ (m:Nat) (x:Ex) (sl:Value) (h:Vw),(szE x).1 <= m -> IsArgs h x sl -> WfE x -> TypesAt h fb f -> RulesAt h rb ->
  C0 Tryz.prog 204 #[.agg #[Vi x.op,Vi x.k,Vi x.n,.string x.s,.string x.nm,sl],.map (some fb),.map (some rb)] h (λr _=>r=.tuple #[Vi (tyE f x).1,Vi (tyE f x).2])
 | 0,x,sl,h,hm,_,_,_,_=>by have:=szE_pos x; omega
 | m + 1,x,sl,h,hm,hx,hw,hF,hR=>by
  have IH:=tyof_any f fb rb m;have hse:=zY x;rw [hse] at hm;simp only at hm;have hwl:=hw.list;have hev:=tyE_eq f x;rcases hw.top with ⟨h1,-⟩ | ⟨h1,-⟩ | ⟨h1,ho2,-,-,-,-,h7⟩
  ·obtain ⟨A,len,c,rfl⟩:=hx.slice;rw [Cj h1] at hev;rw [hev,h1];refine pQ Tryz.func204 λhbx hbad Q hQ=>?_;refine go1 34 [.own,.b 0 0,.b 0 1] [] ?_;intro b1;refine hQ.to [Vi x.k,Vi 0] (λH sH=>?_);exact rfl
  ·obtain ⟨A,len,c,rfl⟩:=hx.slice;rw [Bj (by omega),Cj h1] at hev;obtain ⟨ls,hmp,hgt⟩:=hF;have hgt:=hgt x.nm;rw [h1]
   cases hg:f x.nm with
   | none =>
    rw [hg] at hev hgt;rw [hev];have hl:=mfind_none hgt;refine pQ Tryz.func204 λhbx hbad Q hQ=>?_;refine go1 34 [.own,.b 0 0,.b 0 4] [] ?_;intro b1;refine zQ fb (es:=xY ls) (td:=.string) (key:=.string x.nm) (r:=none) (Vi 0) (.tuple #[Vi 0,.bool false]) (λa w hJ=>MapAt.now (hmp.sees (Sees.refl _)) hJ) (hl) ?_;refine go0 25 [] [] ?_;refine hQ.to [Vi 0,Vi 5] (λH sH=>?_);exact rfl
   | some t =>
    rw [hg] at hev hgt;rw [hev];obtain ⟨i,hl⟩:=mfind_some hgt;refine pQ Tryz.func204 λhbx hbad Q hQ=>?_;refine go1 34 [.own,.b 0 0,.b 0 4] [] ?_;intro b1;refine zQ fb (es:=xY ls) (td:=.string) (key:=.string x.nm) (r:=some (i,Vi t)) (Vi 0) (.tuple #[Vi t,.bool true]) (λa w hJ=>MapAt.now (hmp.sees (Sees.refl _)) hJ) (hl) ?_;refine go0 27 [] [] ?_;refine hQ.to [Vi t,Vi 0] (λH sH=>?_);exact rfl
  ·obtain ⟨vs,hr,hvs⟩:=hx.form;obtain ⟨A,ca,rfl,-,-,-⟩:=hr.form;have hvl:=hvs.len;have hrl:=sK hvl;rw [hrl] at hr ⊢;rw [Bj (by omega),Bj (by omega)] at hev;rw [hev];have hl3:x.args.length <= 3:=by rw [h7]; exact arity_le _
   generalize hL:x.args.length=len at *;obtain ⟨es,hmp,hgt⟩:=hR;have hRR:RulesAt h rb:=⟨es,hmp,hgt⟩;have hgt:=hgt x.op;have htl:(tysE f x.args).length=len:=by rw [tysE,Ij,hL]
   refine pQ Tryz.func204 λhbx hbad Q hQ=>?_;refine cV 3 1 ?_;refine go1 21 [.own,.b 0 0] [] ?_;intro b1;refine tQ (t:=x.op == 1) (Lj.2 (by omega)) ?_;refine go0 6 [] [] ?_;refine tQ (t:=x.op == 2) (Lj.2 (by omega)) ?_;refine go0 18 [.b 0 5] [] ?_;refine yQ [0,1,0,1,1,1] [.block 1,.seq [1,1,1,1]] (λ(k:Nat) X=>∃ (W2:Vw) (v:Value),X W2 [(1,.map (some fb)),(2,.map (some rb)),(3,Vp b1),(37,.slice A len ca),(38,Vi (len:Int)),(39,Vi (k:Int)),(10,v)] [.box b1 [Vi x.op,Vi x.k,Vi x.n,.string x.s,.string x.nm,.slice A len ca],.row v 3 1 (rV ((tysE f x.args).take k))] [] /\ Sees h W2 /\ (k <= len) /\ (∀ y∈x.args.take k,(tyE f y).2=0)) (λk=>len - k) (0) (λX q=>⟨h,(Vz),q _ _ _ _ ⟨rfl,by kernel_rfl⟩,Sees.refl _,Mj _,(λy hy=>by simp at hy)⟩) ?_;rintro k a w ⟨W2,v,hJ,S3,hk,hpre⟩; refine dV hJ ?_; clear hJ a w;refine go0 6 [] [] ?_;rcases (by omega:k < len\/len=k) with hlt | hke
   ·obtain ⟨y,hy⟩:∃ y,x.args[k]?=some y:=⟨_,Gj (by omega)⟩;obtain ⟨u,hu⟩:∃ u,vs[k]?=some u:=⟨_,Gj (by omega)⟩;have hyu:=AllArgs.get hvs hy hu;obtain ⟨Au,nu,cu,rfl⟩:=hyu.slice;have hrow:(rK x.args vs)[k]?=some (exRow y (.slice Au nu cu)):=by show (List.zipWith exRow _ _)[k]?=_; rw [Dw,hy,hu]
    have hym:=Ej hy;have hcall:=λH q1 q2 q3=>IH y (.slice Au nu cu) H (by have:=(szL_mem hym).1; omega) q1 (hwl.get hym) q2 q3;have hek:(tysE f x.args)[k]?=some (tyE f y).1:=by rw [tysE,Oj,hy]; rfl
    have htk:=cZ _ k _ hek;have hxk:=cZ _ k _ hy;have htn:((tysE f x.args).take k).length=k:=by rw [Ck,htl]; omega
    refine jV (t:=decide ((k:Int) < (len:Int))) (Jj (by omega)) ?_;refine go0 6 [] [] ?_;obtain ⟨b4,o5,rfl,-,c6⟩:=RS.row hr (hrow);refine qQ (c6.sees S3) ?_;refine go1 26 [.ix b4 o5 len ca k,.f 0 0,.own,.b 0 0,.b 0 0,.cl 204 #[.agg #[Vi y.op,Vi y.k,Vi y.n,.string y.s,.string y.nm,.slice Au nu cu],.map (some fb),.map (some rb)] (.tuple #[Vi ((tyE f y).1),Vi ((tyE f y).2)])] [] ?_ (ho:=(Aj (by first | omega | (simp; omega)) (Aj (λH sH=>hcall _ (hyu.sees (S3.trans sH)) (hF.sees (S3.trans sH)) (hRR.sees (S3.trans sH))) (trivial))));intro b7
    by_cases he:(tyE f y).2=0
    ·refine tQ (t:=((tyE f y).2) != 0) (Rk.2 he) ?_;refine oV 6 [.fix] [] ?_;intro b8 W9 S10;refine goa0 9 [.ap 2 0 (rV ((tysE f x.args).take k)) [[Vi ((tyE f y).1)]]] [(57,Vi (IntKind.i64.wrap ((k:Int) + 1)),Vi ((k:Int) + 1))] ?_ (ho:=(Aj (by rw [Ij,htn]; simp; omega) (trivial))) (hc:=(Aj (jJ (by omega) (by omega)) (trivial)));intro v56 W11 S12;refine wQ [(1,.map (some fb)),(2,.map (some rb)),(3,Vp b1),(37,.slice (some ⟨b4,o5,none⟩) len ca),(38,Vi (len:Int)),(10,sL v56),(39,Vi ((k:Int) + 1))] [.box b1 [Vi x.op,Vi x.k,Vi x.n,.string x.s,.string x.nm,.slice (some ⟨b4,o5,none⟩) len ca],.row (sL v56) 3 1 ((rV ((tysE f x.args).take k))++[[Vi ((tyE f y).1)]])] [] ?_;exact iV (k + 1) (λX q=>⟨W11,sL v56,q _ _ _ _ (mY (by rw [htk]; simp)),(S3.trans (S10.trans S12)),by omega,(λz hz=>by rw [hxk] at hz; rcases Qj.1 hz with q | q; exact hpre z q; rw [Pj.1 q]; exact he)⟩)
    ·skip;refine jV (t:=((tyE f y).2) != 0) (Hk.2 he) ?_
     refine go0 11 [] [] ?_;refine xQ ?_;refine go0 2 [] [] ?_;have htE:=tyL_err hy hpre he;refine hQ.to [Vi 0,Vi ((tyE f y).2)] (λH sH=>?_);rw [Bj (by rw [htE]; exact he),htE]; rfl
   ·skip;have hta:x.args.take k=x.args:=Lv (by omega)
    have htb:(tysE f x.args).take k=(tysE f x.args):=Lv (by omega);rw [hta] at hpre;have htE:=tyL_all hpre;rw [htb];rw [htE] at hev;generalize (tysE f x.args)=tys at *;refine uQ 1 (v:=v) (e:=3) (kk:=1) (l:=rV tys) ?_; intro A2 c2 hE_v hc_v hm_v;rw [show (rV tys).length=k from by first | omega | (simp; done) | (simp; omega)] at hE_v hc_v;rw [hE_v];refine vQ 1 (v:=.slice A2 k c2) (e:=3) (kk:=1) (l:=rV tys) ?_; intro W13 S14 fr;refine tQ (t:=decide ((k:Int) < (len:Int))) (Kj (by omega)) ?_;refine go0 2 [] [] ?_;refine xQ ?_;refine go0 7 [.b 0 0] [] ?_
    cases hru:ruleT x.op with
    | some ru =>
     obtain ⟨ta,t⟩:=ru;rw [hru] at hgt;obtain ⟨Ar,nr,cr,hge,hrr⟩:=hgt;obtain ⟨i,hl⟩:=ifind_some hge;have hq:=λH q1 q2=>equal_any tys ta (.slice A2 k c2) (.slice Ar nr cr) H q1 q2;refine zQ rb (es:=qV es) (td:=.int .i64) (key:=Vi x.op) (r:=some (i,.agg #[.slice Ar nr cr,Vi t])) (.agg #[Vz,Vi 0]) (.tuple #[.agg #[.slice Ar nr cr,Vi t],.bool true]) (λa w hJ=>MapAt.now (hmp.sees (S3.trans S14)) hJ) (hl) ?_;refine go1 22 [.own,.b 0 0,.b 0 0,.cl 237 #[.slice A2 k c2,.slice Ar nr cr] (.bool (decide (tys=ta)))] [] ?_ (ho:=(Aj (λH sH=>hq _ (fr.sees sH) (hrr.sees (S3.trans (S14.trans sH)))) (trivial)));intro b15
     by_cases e:tys=ta
     ·skip;refine jV (t:=decide (tys=ta)) (Jj e) ?_
      refine go0 11 [.b 0 1] [] ?_;refine hQ.to [Vi t,Vi 0] (λH sH=>?_);exact ret2 (by rw [htE,Cj rfl]; unfold opTy; rw [hru]; simp [e])
     ·skip;refine tQ (t:=decide (tys=ta)) (Kj e) ?_
      refine go0 16 [] [] ?_;refine hQ.to [Vi 0,Vi 9] (λH sH=>?_);exact ret2 (by rw [htE,Cj rfl]; unfold opTy; rw [hru]; simp [e])
    | none =>
     rw [hru] at hgt;have hl:=ifind_none hgt;have htk:tys.length=k:=by omega
     rcases rule_none h1 ho2 hru with h17 | ⟨h17,ho3,ho4⟩
     ·have hk3:k=3:=by rw [<- hke,h7,h17]; rfl
      obtain ⟨p,q,r,rfl⟩:∃ p q r,tys=[p,q,r]:=by
       match tys,htk.trans hk3 with
       | [p,q,r],_=>exact ⟨p,q,r,rfl⟩
      have r0:(rV [p,q,r])[0]?=some [Vi p]:=rfl;have r1:(rV [p,q,r])[1]?=some [Vi q]:=rfl;have r2:(rV [p,q,r])[2]?=some [Vi r]:=rfl
      by_cases hp:p=2
      ·skip
       by_cases hq:q=r
       ·skip;refine zQ rb (es:=qV es) (td:=.int .i64) (key:=Vi x.op) (r:=none) (.agg #[Vz,Vi 0]) (.tuple #[.agg #[Vz,Vi 0],.bool false]) (λa w hJ=>MapAt.now (hmp.sees (S3.trans S14)) hJ) (hl) ?_
        refine go1 31 [.own,.b 0 0] [] ?_;intro b16;obtain ⟨b17,o18,rfl,-,c19⟩:=RS.row fr (r0);refine qQ (c19.sees (Sees.refl _)) ?_;have c20:=RS.cell fr (r1);refine qQ (c20.sees (Sees.refl _)) ?_;have c21:=RS.cell fr (r2);refine qQ (c21.sees (Sees.refl _)) ?_;refine fV 19 0 [.pu,.ld 1 0,.v (λgh=>.bool true),.pu,.pu,.v (λgh=>.pointer (some ⟨b17,o18 + 0 * 1,none⟩)),.lf 2 0,.v (λgh=>.bool true),.pu,.pu,.pu,.v (λgh=>.pointer (some ⟨b17,o18 + 1 * 1,none⟩)),.lf 1 0,.pu,.v (λgh=>.pointer (some ⟨b17,o18 + 2 * 1,none⟩)),.lf 0 0,.v (λgh=>.bool true),.pu,.pu] [] (trivial) ?_ ?_
        ·intro R hT hA hmono;refine Aj (aZ hT hA (λgh=>.bool true) (λgh=>.bool (x.op == 17)) (λgh=>Dj Value.bool (Xj.2 h17))) ?_;refine Aj (bZ hT hA b17 o18 k c2 0 (λgh=>.pointer (some ⟨b17,o18 + 0 * 1,none⟩)) (by first | omega | (simp; omega))) ?_;refine Aj (aZ hT hA (λgh=>.bool true) (λgh=>.bool (p == 2)) (λgh=>Dj Value.bool (Xj.2 hp))) ?_;refine Aj (bZ hT hA b17 o18 k c2 1 (λgh=>.pointer (some ⟨b17,o18 + 1 * 1,none⟩)) (by first | omega | (simp; omega))) ?_;refine Aj (bZ hT hA b17 o18 k c2 2 (λgh=>.pointer (some ⟨b17,o18 + 2 * 1,none⟩)) (by first | omega | (simp; omega))) ?_;refine Aj (aZ hT hA (λgh=>.bool true) (λgh=>.bool (q == r)) (λgh=>Dj Value.bool (Xj.2 hq))) ?_
         trivial
        rintro W22 S23 -;refine go0 5 [] [] ?_;have c24:=RS.cell fr (r1);refine qQ (c24.sees S23) ?_;refine go0 9 [.ix b17 o18 k c2 1,.f 0 0] [] ?_ (ho:=(Aj (by first | omega | (simp; omega)) (trivial)));refine hQ.to [Vi q,Vi 0] (λH sH=>?_);exact ret2 (by rw [htE,Cj rfl]; unfold opTy; rw [hru]; simp [h17,hp,hq])
       ·skip;refine zQ rb (es:=qV es) (td:=.int .i64) (key:=Vi x.op) (r:=none) (.agg #[Vz,Vi 0]) (.tuple #[.agg #[Vz,Vi 0],.bool false]) (λa w hJ=>MapAt.now (hmp.sees (S3.trans S14)) hJ) (hl) ?_
        refine go1 31 [.own,.b 0 0] [] ?_;intro b25;obtain ⟨b26,o27,rfl,-,c28⟩:=RS.row fr (r0);refine qQ (c28.sees (Sees.refl _)) ?_;have c29:=RS.cell fr (r1);refine qQ (c29.sees (Sees.refl _)) ?_;have c30:=RS.cell fr (r2);refine qQ (c30.sees (Sees.refl _)) ?_;refine fV 19 0 [.pu,.ld 1 0,.v (λgh=>.bool true),.pu,.pu,.v (λgh=>.pointer (some ⟨b26,o27 + 0 * 1,none⟩)),.lf 2 0,.v (λgh=>.bool true),.pu,.pu,.pu,.v (λgh=>.pointer (some ⟨b26,o27 + 1 * 1,none⟩)),.lf 1 0,.pu,.v (λgh=>.pointer (some ⟨b26,o27 + 2 * 1,none⟩)),.lf 0 0,.v (λgh=>.bool false),.pu,.pu] [] (trivial) ?_ ?_
        ·intro R hT hA hmono;refine Aj (aZ hT hA (λgh=>.bool true) (λgh=>.bool (x.op == 17)) (λgh=>Dj Value.bool (Xj.2 h17))) ?_;refine Aj (bZ hT hA b26 o27 k c2 0 (λgh=>.pointer (some ⟨b26,o27 + 0 * 1,none⟩)) (by first | omega | (simp; omega))) ?_;refine Aj (aZ hT hA (λgh=>.bool true) (λgh=>.bool (p == 2)) (λgh=>Dj Value.bool (Xj.2 hp))) ?_;refine Aj (bZ hT hA b26 o27 k c2 1 (λgh=>.pointer (some ⟨b26,o27 + 1 * 1,none⟩)) (by first | omega | (simp; omega))) ?_;refine Aj (bZ hT hA b26 o27 k c2 2 (λgh=>.pointer (some ⟨b26,o27 + 2 * 1,none⟩)) (by first | omega | (simp; omega))) ?_;refine Aj (aZ hT hA (λgh=>.bool false) (λgh=>.bool (q == r)) (λgh=>Dj Value.bool (Lj.2 hq))) ?_
         trivial
        rintro W31 S32 -;refine go0 3 [] [] ?_;refine fV 13 0 [.pu,.ld 1 0,.v (λgh=>.bool false),.pu,.ps,.ps,.ps,.ps,.ps,.ps,.ps,.pu,.pu] [] (trivial) ?_ ?_
        ·intro R hT hA hmono;refine Aj (aZ hT hA (λgh=>.bool false) (λgh=>.bool (x.op != 17)) (λgh=>Dj Value.bool (Rk.2 h17))) ?_
         trivial
        rintro W33 S34 -;refine go0 12 [] [] ?_;refine hQ.to [Vi 0,Vi 9] (λH sH=>?_);exact ret2 (by rw [htE,Cj rfl]; unfold opTy; rw [hru]; simp [h17,hp,hq])
      ·skip;refine zQ rb (es:=qV es) (td:=.int .i64) (key:=Vi x.op) (r:=none) (.agg #[Vz,Vi 0]) (.tuple #[.agg #[Vz,Vi 0],.bool false]) (λa w hJ=>MapAt.now (hmp.sees (S3.trans S14)) hJ) (hl) ?_
       refine go1 31 [.own,.b 0 0] [] ?_;intro b35;obtain ⟨b36,o37,rfl,-,c38⟩:=RS.row fr (r0);refine qQ (c38.sees (Sees.refl _)) ?_;have c39:=RS.cell fr (r1);refine qQ (c39.sees (Sees.refl _)) ?_;have c40:=RS.cell fr (r2);refine qQ (c40.sees (Sees.refl _)) ?_;refine fV 19 0 [.pu,.ld 1 0,.v (λgh=>.bool true),.pu,.pu,.v (λgh=>.pointer (some ⟨b36,o37 + 0 * 1,none⟩)),.lf 2 0,.v (λgh=>.bool false),.pu,.pu,.ps,.ps,.ps,.ps,.ps,.ps,.ps,.pu,.pu] [] (trivial) ?_ ?_
       ·intro R hT hA hmono;refine Aj (aZ hT hA (λgh=>.bool true) (λgh=>.bool (x.op == 17)) (λgh=>Dj Value.bool (Xj.2 h17))) ?_;refine Aj (bZ hT hA b36 o37 k c2 0 (λgh=>.pointer (some ⟨b36,o37 + 0 * 1,none⟩)) (by first | omega | (simp; omega))) ?_;refine Aj (aZ hT hA (λgh=>.bool false) (λgh=>.bool (p == 2)) (λgh=>Dj Value.bool (Lj.2 hp))) ?_
        trivial
       rintro W41 S42 -;refine go0 3 [] [] ?_;refine fV 13 0 [.pu,.ld 1 0,.v (λgh=>.bool false),.pu,.ps,.ps,.ps,.ps,.ps,.ps,.ps,.pu,.pu] [] (trivial) ?_ ?_
       ·intro R hT hA hmono;refine Aj (aZ hT hA (λgh=>.bool false) (λgh=>.bool (x.op != 17)) (λgh=>Dj Value.bool (Rk.2 h17))) ?_
        trivial
       rintro W43 S44 -;refine go0 12 [] [] ?_;refine hQ.to [Vi 0,Vi 9] (λH sH=>?_);exact ret2 (by rw [htE,Cj rfl]; unfold opTy; rw [hru]; simp [h17,hp])
     ·skip;have hk2:k=2:=by
       rw [<- hke,h7]; unfold arity;rw [Bj (by omega),Bj (by omega),Bj h17]
      obtain ⟨p,q,rfl⟩:∃ p q,tys=[p,q]:=by
       match tys,htk.trans hk2 with
       | [p,q],_=>exact ⟨p,q,rfl⟩
      have r0:(rV [p,q])[0]?=some [Vi p]:=rfl;have r1:(rV [p,q])[1]?=some [Vi q]:=rfl
      by_cases hp:p=q
      ·skip;refine zQ rb (es:=qV es) (td:=.int .i64) (key:=Vi x.op) (r:=none) (.agg #[Vz,Vi 0]) (.tuple #[.agg #[Vz,Vi 0],.bool false]) (λa w hJ=>MapAt.now (hmp.sees (S3.trans S14)) hJ) (hl) ?_
       refine go1 31 [.own,.b 0 0] [] ?_;intro b45;refine fV 19 0 [.pu,.ld 1 0,.v (λgh=>.bool false),.pu,.ps,.ps,.ps,.ps,.pu,.pu,.ps,.ps,.ps,.ps,.ps,.ps,.ps,.pu,.pu] [] (trivial) ?_ ?_
       ·intro R hT hA hmono;refine Aj (aZ hT hA (λgh=>.bool false) (λgh=>.bool (x.op == 17)) (λgh=>Dj Value.bool (Lj.2 h17))) ?_
        trivial
       rintro W46 S47 -;refine go0 3 [] [] ?_;obtain ⟨b48,o49,rfl,-,c50⟩:=RS.row fr (r0);refine qQ (c50.sees S47) ?_;have c51:=RS.cell fr (r1);refine qQ (c51.sees S47) ?_;refine fV 13 0 [.pu,.ld 1 0,.v (λgh=>.bool true),.pu,.pu,.v (λgh=>.pointer (some ⟨b48,o49 + 0 * 1,none⟩)),.lf 1 0,.pu,.v (λgh=>.pointer (some ⟨b48,o49 + 1 * 1,none⟩)),.lf 0 0,.v (λgh=>.bool true),.pu,.pu] [] (trivial) ?_ ?_
       ·intro R hT hA hmono;refine Aj (aZ hT hA (λgh=>.bool true) (λgh=>.bool (x.op != 17)) (λgh=>Dj Value.bool (Hk.2 h17))) ?_;refine Aj (bZ hT hA b48 o49 k c2 0 (λgh=>.pointer (some ⟨b48,o49 + 0 * 1,none⟩)) (by first | omega | (simp; omega))) ?_;refine Aj (bZ hT hA b48 o49 k c2 1 (λgh=>.pointer (some ⟨b48,o49 + 1 * 1,none⟩)) (by first | omega | (simp; omega))) ?_;refine Aj (aZ hT hA (λgh=>.bool true) (λgh=>.bool (p == q)) (λgh=>Dj Value.bool (Xj.2 hp))) ?_
        trivial
       rintro W52 S53 -;refine go0 11 [] [] ?_;refine hQ.to [Vi 2,Vi 0] (λH sH=>?_);exact ret2 (by rw [htE,Cj rfl]; unfold opTy; rw [hru]; simp [h17,hp])
      ·skip;refine zQ rb (es:=qV es) (td:=.int .i64) (key:=Vi x.op) (r:=none) (.agg #[Vz,Vi 0]) (.tuple #[.agg #[Vz,Vi 0],.bool false]) (λa w hJ=>MapAt.now (hmp.sees (S3.trans S14)) hJ) (hl) ?_
       refine go1 31 [.own,.b 0 0] [] ?_;intro b54;refine fV 19 0 [.pu,.ld 1 0,.v (λgh=>.bool false),.pu,.ps,.ps,.ps,.ps,.pu,.pu,.ps,.ps,.ps,.ps,.ps,.ps,.ps,.pu,.pu] [] (trivial) ?_ ?_
       ·intro R hT hA hmono;refine Aj (aZ hT hA (λgh=>.bool false) (λgh=>.bool (x.op == 17)) (λgh=>Dj Value.bool (Lj.2 h17))) ?_
        trivial
       rintro W55 S56 -;refine go0 3 [] [] ?_;obtain ⟨b57,o58,rfl,-,c59⟩:=RS.row fr (r0);refine qQ (c59.sees S56) ?_;have c60:=RS.cell fr (r1);refine qQ (c60.sees S56) ?_;refine fV 13 0 [.pu,.ld 1 0,.v (λgh=>.bool true),.pu,.pu,.v (λgh=>.pointer (some ⟨b57,o58 + 0 * 1,none⟩)),.lf 1 0,.pu,.v (λgh=>.pointer (some ⟨b57,o58 + 1 * 1,none⟩)),.lf 0 0,.v (λgh=>.bool false),.pu,.pu] [] (trivial) ?_ ?_
       ·intro R hT hA hmono;refine Aj (aZ hT hA (λgh=>.bool true) (λgh=>.bool (x.op != 17)) (λgh=>Dj Value.bool (Hk.2 h17))) ?_;refine Aj (bZ hT hA b57 o58 k c2 0 (λgh=>.pointer (some ⟨b57,o58 + 0 * 1,none⟩)) (by first | omega | (simp; omega))) ?_;refine Aj (bZ hT hA b57 o58 k c2 1 (λgh=>.pointer (some ⟨b57,o58 + 1 * 1,none⟩)) (by first | omega | (simp; omega))) ?_;refine Aj (aZ hT hA (λgh=>.bool false) (λgh=>.bool (p == q)) (λgh=>Dj Value.bool (Lj.2 hp))) ?_
        trivial
       rintro W61 S62 -;refine go0 12 [] [] ?_;refine hQ.to [Vi 0,Vi 9] (λH sH=>?_);exact ret2 (by rw [htE,Cj rfl]; unfold opTy; rw [hru]; simp [h17,hp])
def mpB:Value -> Nat | .map (some b)=>b | _=>0
theorem types_u (fs:List Fd) (v:Value) (h:Vw) (hf:IsFds h v fs):C0 Tryz.prog 205 #[v] h (λr h'=>∃ u,r=.map (some (mpB u)) /\ TypesAt h' (mpB u) (tyF fs)):=by
 intro a b c d;refine (types_any fs v h hf a b c d).mono ?_;rintro e w' ⟨v,Bo,rfl,h1,h2,h3,b,rfl,h4⟩;exact ⟨_,Bo,rfl,h1,h2,h3,.map (some b),rfl,h4⟩
theorem rules_u (h:Vw):C0 Tryz.prog 206 #[] h (λr h'=>∃ u,r=.map (some (mpB u)) /\ RulesAt h' (mpB u)):=by
 intro a b c d;refine (rules_any h a b c d).mono ?_;rintro e w' ⟨v,Bo,rfl,h1,h2,h3,b,rfl,h4⟩;exact ⟨_,Bo,rfl,h1,h2,h3,.map (some b),rfl,h4⟩
def ofE (fs:List Fd) (x:Ex):Int × Int:=if chkE x=0 then tyE (tyF fs) x else (0,chkE x)
theorem tyOf_any (fs:List Fd) (x:Ex) (v fv:Value) (h:Vw) (hx:IsArgs h x v) (hw:WfE x) (hb:(szE x).1 < 1000000) (hf:IsFds h fv fs) :
  C0 Tryz.prog 162 #[.agg #[Vi x.op,Vi x.k,Vi x.n,.string x.s,.string x.nm,v],fv] h (λr _=>r=.tuple #[Vi (ofE fs x).1,Vi (ofE fs x).2]):=by
 obtain ⟨A,n,c,rfl⟩:=hx.slice;obtain ⟨Af,nf,cf,rfl⟩:∃ A n c,fv=.slice A n c:=by
  obtain ⟨vs,hr,-⟩:=hf;obtain ⟨A,c,e,-⟩:=hr.form;exact ⟨_,_,_,e⟩
 have hck:=λH q=>check_any x (.slice A n c) H q hw hb;have hO:=λfb rb H q1 q2 q3=>tyof_any (tyF fs) fb rb _ x (.slice A n c) H (Hj _) q1 hw q2 q3;have hTy:=λH q=>types_u fs (.slice Af nf cf) H q;unfold ofE;generalize chkE x=e at *;generalize tyE (tyF fs) x=ty at *;refine pQ Tryz.func162 λhbx hbad Q hQ=>?_;refine go1 21 [.own,.b 0 0,.cl 107 #[.agg #[Vi x.op,Vi x.k,Vi x.n,.string x.s,.string x.nm,.slice A n c]] (Vi e)] [] ?_ (ho:=(Aj (λH sH=>hck _ (hx.sees sH)) (trivial)));intro b1
 by_cases he:e=0
 ·skip;refine tQ (t:=e != 0) (Rk.2 he) ?_
  refine go0 3 [] [] ?_;refine fV 9 0 [.ld 0 0,.pu,.f (λgh=>.map (some (mpB (gh 2)))) (λgh hh=>TypesAt hh (mpB (gh 2)) (tyF fs)),.f (λgh=>.map (some (mpB (gh 3)))) (λgh hh=>RulesAt hh (mpB (gh 3))),.v (λgh=>.tuple #[Vi ty.1,Vi ty.2]),.pu,.pu,.pu,.pu] [(2,false),(3,false)] (Aj (λ_ _ _ s c=>c.sees s) (Aj (λ_ _ _ s c=>c.sees s) (trivial))) ?_ ?_
  ·intro R hT hA hmono;refine Aj (vX hT hA hmono 14 (λu=>.map (some (mpB u))) [1] 2 205 (λgh=>#[.slice Af nf cf]) (λgh H sH fH lent=>C0.facts (R:=R) (x:=gh) (i:=2) (n:=0) (F:=(λu=>.map (some (mpB u)))) (G:=λu hh=>TypesAt hh (mpB u) (tyF fs)) (f:=λgh hh=>TypesAt hh (mpB (gh 2)) (tyF fs)) (hTy _ (hf.sees sH)) (by kernel_rfl) (by kernel_rfl) (λ_ _ r=>r))) ?_;refine Aj (vX hT hA hmono 15 (λu=>.map (some (mpB u))) [2] 3 206 (λgh=>#[]) (λgh H sH fH lent=>C0.facts (R:=R) (x:=gh) (i:=3) (n:=1) (F:=(λu=>.map (some (mpB u)))) (G:=λu hh=>RulesAt hh (mpB u)) (f:=λgh hh=>RulesAt hh (mpB (gh 3))) (rules_u _) (by kernel_rfl) (by kernel_rfl) (λ_ _ r=>r))) ?_;refine Aj (t_v hT hA hmono (k:=204) (args:=(λgh=>#[.agg #[Vi x.op,Vi x.k,Vi x.n,.string x.s,.string x.nm,.slice A n c],.map (some (mpB (gh 2))),.map (some (mpB (gh 3)))])) (f:=λgh=>.tuple #[Vi ty.1,Vi ty.2]) (λgh H sH fH lent=>hO _ _ _ (hx.sees sH) (fH 0 _ rfl (by kernel_rfl)) (fH 1 _ rfl (by kernel_rfl)))) ?_
   trivial
  rintro u14 u15 W2 S3 ⟨f14,f15,-⟩;replace f14:TypesAt W2 (mpB u14) (tyF fs):=f14;replace f15:RulesAt W2 (mpB u15):=f15;refine go0 2 [] [] ?_;refine hQ.to [Vi ty.1,Vi ty.2] (λH sH=>?_);rw [Cj he]; rfl
 ·skip;refine jV (t:=e != 0) (Hk.2 he) ?_
  refine go0 9 [] [] ?_;refine hQ.to [Vi 0,Vi e] (λH sH=>?_);rw [Bj he]; rfl
def fitsE (fs:List Fd) (x:Ex) (want:Int):Int:=if (ofE fs x).2=0 then (if (ofE fs x).1=want then 0 else 9) else (ofE fs x).2
theorem fits_any (fs:List Fd) (x:Ex) (v fv:Value) (want:Int) (h:Vw) (hx:IsArgs h x v) (hw:WfE x) (hb:(szE x).1 < 1000000) (hf:IsFds h fv fs) :
  C0 Tryz.prog 149 #[.agg #[Vi x.op,Vi x.k,Vi x.n,.string x.s,.string x.nm,v],fv,Vi want] h (λr _=>r=Vi (fitsE fs x want)):=by
 obtain ⟨A,n,c,rfl⟩:=hx.slice;obtain ⟨Af,nf,cf,rfl⟩:∃ A n c,fv=.slice A n c:=by
  obtain ⟨vs,hr,-⟩:=hf;obtain ⟨A,c,e,-⟩:=hr.form;exact ⟨_,_,_,e⟩
 have hO:=λH q1 q2=>tyOf_any fs x (.slice A n c) (.slice Af nf cf) H q1 hw hb q2;unfold fitsE;generalize ofE fs x=ty at *;refine pQ Tryz.func149 λhbx hbad Q hQ=>?_;refine go1 25 [.own,.b 0 0,.cl 162 #[.agg #[Vi x.op,Vi x.k,Vi x.n,.string x.s,.string x.nm,.slice A n c],.slice Af nf cf] (.tuple #[Vi ty.1,Vi ty.2])] [] ?_ (ho:=(Aj (λH sH=>hO _ (hx.sees sH) (hf.sees sH)) (trivial)));intro b1
 by_cases he:ty.2=0
 ·refine tQ (t:=ty.2 != 0) (Rk.2 he) ?_;refine go0 10 [] [] ?_
  by_cases hw:ty.1=want
  ·refine tQ (t:=ty.1 != want) (Rk.2 hw) ?_;refine go0 8 [] [] ?_;refine hQ.to [Vi 0] (λH sH=>?_);rw [Cj he,Cj hw]; rfl
  ·skip;refine jV (t:=ty.1 != want) (Hk.2 hw) ?_
   refine go0 7 [] [] ?_;refine hQ.to [Vi 9] (λH sH=>?_);rw [Cj he,Bj hw]; rfl
 ·skip;refine jV (t:=ty.2 != 0) (Hk.2 he) ?_
  refine go0 8 [] [] ?_;refine hQ.to [Vi ty.2] (λH sH=>?_);rw [Bj he]; rfl
set_option linter.unusedVariables false
structure OkF (fs:List Fd) (f:Fd):Prop where
 name:qJ f.name.data.toList
 k1:1 <= f.kind
 k3:f.kind <= 3
 t1:1 <= f.ty
 t3:f.ty <= 3
 inp:f.kind=1 -> f.src=zE
 wf:f.kind≠1 -> WfE f.src /\ (szE f.src).1 <= 60 /\ chkE f.src=0
 form:f.kind=2 -> tyE (tyF fs) f.src=(f.ty,0)
 look:f.kind=3 -> ∃ t,1 <= t /\ t <= 3 /\ tyE (tyF fs) f.src=(t,0)
structure OkFs (fs:List Fd):Prop where
 each:∀ f∈fs,OkF fs f
 nodup:(fs.map (·.name)).Nodup
 few:fs.length <= 14
theorem args_zero {h:Vw} {x:Ex} {v:Value} (hx:x.args=[]) (ha:IsArgs h x v):∃ A c,v=.slice A 0 c:=by
 obtain ⟨vs,hr,-⟩:=ha.form;obtain ⟨A,c,e,-⟩:=hr.form;rw [hx] at e;exact ⟨A,c,e⟩
theorem none_any (A:Option Addr) (c:Nat) (h:Vw):C0 Tryz.prog 177 #[.agg #[Vi 0,Vi 0,Vi 0,.string ⟨#[]⟩,.string ⟨#[]⟩,.slice A 0 c]] h (λr _=>r=.bool true):=by
 refine pQ Tryz.func177 λhbx hbad Q hQ=>?_;refine go1 32 [.own,.b 0 0,.b 0 4,.b 0 1,.b 0 5] [] ?_;intro b1;refine hQ.to [.bool true] (λH sH=>?_);exact rfl
theorem right_any (fs:List Fd) (f:Fd) (v:Value) (h:Vw) (hf:OkF fs f) (ha:IsArgs h f.src v):C0 Tryz.prog 122 #[.agg #[Vt f.name,Vi f.kind,Vi f.ty,Vi f.src.op,Vi f.src.k,Vi f.src.n,.string f.src.s,.string f.src.nm,v]] h (λr _=>r=Vi 0):=by
 have hn:=λH=>c_name f.name H hf.name;have k1:=hf.k1;have k3:=hf.k3;have t1:=hf.t1;have t3:=hf.t3
 by_cases g:f.kind=1
 ·obtain ⟨A,c,rfl⟩:=args_zero (by rw [hf.inp g]; rfl) ha;have e1:f.src.op=0:=by rw [hf.inp g]; rfl
  have e2:f.src.k=0:=by rw [hf.inp g]; rfl
  have e3:f.src.n=0:=by rw [hf.inp g]; rfl
  have e4:f.src.s=⟨#[]⟩:=by rw [hf.inp g]; rfl
  have e5:f.src.nm=⟨#[]⟩:=by rw [hf.inp g]; rfl
  rw [e1,e2,e3,e4,e5,g];refine pQ Tryz.func122 λhbx hbad Q hQ=>?_;refine go1 78 [.own,.b 0 0,.cl 118 #[Vt f.name] (Vi 0),.b 0 1,.b 0 1,.b 0 2,.b 0 2,.b 0 1,.b 0 3,.cl 177 #[.agg #[Vi 0,Vi 0,Vi 0,Ve,Ve,.slice A 0 c]] (.bool true)] [(21,.bool (decide (f.ty < 1)),.bool false),(26,.bool (decide (f.ty > 3)),.bool false)] ?_ (ho:=(Aj (λH sH=>hn _) (Aj (λH sH=>none_any A c _) (trivial)))) (hc:=(Aj (Dj Value.bool (Kj (by omega))) (Aj (Dj Value.bool (Kj (by omega))) (trivial))));intro b1;refine hQ.to [Vi 0] (λH sH=>?_);exact rfl
 ·obtain ⟨w1,w2,w3⟩:=hf.wf g;obtain ⟨A,n,c,rfl⟩:=ha.slice;have hc:=λH q=>check_any f.src (.slice A n c) H q w1 (by omega);rw [w3] at hc;refine pQ Tryz.func122 λhbx hbad Q hQ=>?_;refine go1 70 [.own,.b 0 0,.cl 118 #[Vt f.name] (Vi 0),.b 0 1,.b 0 1,.b 0 2,.b 0 2,.b 0 1,.b 0 3,.cl 107 #[.agg #[Vi f.src.op,Vi f.src.k,Vi f.src.n,.string f.src.s,.string f.src.nm,.slice A n c]] (Vi 0)] [(12,.bool (decide (f.kind < 1)),.bool false),(16,.bool (decide (f.kind > 3)),.bool false),(21,.bool (decide (f.ty < 1)),.bool false),(26,.bool (decide (f.ty > 3)),.bool false),(30,.bool (f.kind == 1),.bool false)] ?_ (ho:=(Aj (λH sH=>hn _) (Aj (λH sH=>hc _ (ha.sees sH)) (trivial)))) (hc:=(Aj (Dj Value.bool (Kj (by omega))) (Aj (Dj Value.bool (Kj (by omega))) (Aj (Dj Value.bool (Kj (by omega))) (Aj (Dj Value.bool (Kj (by omega))) (Aj (Dj Value.bool (Lj.2 g)) (trivial)))))));intro b1;refine hQ.to [Vi 0] (λH sH=>?_);exact rfl
theorem typed_any (fs:List Fd) (f:Fd) (v fv:Value) (h:Vw) (hf:OkF fs f) (ha:IsArgs h f.src v) (hfs:IsFds h fv fs):C0 Tryz.prog 187 #[.agg #[Vt f.name,Vi f.kind,Vi f.ty,Vi f.src.op,Vi f.src.k,Vi f.src.n,.string f.src.s,.string f.src.nm,v],fv] h (λr _=>r=Vi 0):=by
 obtain ⟨A,n,c,rfl⟩:=ha.slice;obtain ⟨vs,Af,cf,rfl,-⟩:=bQ hfs;obtain g | g | g:f.kind=1\/f.kind=2\/f.kind=3:=by have:=hf.k1; have:=hf.k3; omega
 ·rw [g];refine pQ Tryz.func187 λhbx hbad Q hQ=>?_;refine go1 37 [.own,.b 0 1] [] ?_;intro b1;refine hQ.to [Vi 0] (λH sH=>?_);exact rfl
 ·obtain ⟨w1,w2,w3⟩:=hf.wf (by omega);have hc:=λH q1 q2=>fits_any fs f.src (.slice A n c) (.slice Af fs.length cf) f.ty H q1 w1 (by omega) q2;have e:fitsE fs f.src f.ty=0:=by unfold fitsE ofE; rw [Cj w3,hf.form g]; simp
  rw [e] at hc;rw [g];refine pQ Tryz.func187 λhbx hbad Q hQ=>?_;refine go1 35 [.own,.b 0 1,.b 0 3,.b 0 2,.cl 149 #[.agg #[Vi f.src.op,Vi f.src.k,Vi f.src.n,.string f.src.s,.string f.src.nm,.slice A n c],.slice Af fs.length cf,Vi f.ty] (Vi 0)] [] ?_ (ho:=(Aj (λH sH=>hc _ (ha.sees sH) (hfs.sees sH)) (trivial)));intro b1;refine hQ.to [Vi 0] (λH sH=>?_);exact rfl
 ·obtain ⟨w1,w2,w3⟩:=hf.wf (by omega);obtain ⟨t,-,-,ht⟩:=hf.look g;have hc:=λH q1 q2=>tyOf_any fs f.src (.slice A n c) (.slice Af fs.length cf) H q1 w1 (by omega) q2;have e:ofE fs f.src=(t,0):=by unfold ofE; rw [Cj w3,ht]
  rw [e] at hc;rw [g];refine pQ Tryz.func187 λhbx hbad Q hQ=>?_;refine go1 50 [.own,.b 0 1,.b 0 3,.cl 162 #[.agg #[Vi f.src.op,Vi f.src.k,Vi f.src.n,.string f.src.s,.string f.src.nm,.slice A n c],.slice Af fs.length cf] (.tuple #[Vi t,Vi 0])] [] ?_ (ho:=(Aj (λH sH=>hc _ (ha.sees sH) (hfs.sees sH)) (trivial)));intro b1;refine hQ.to [Vi 0] (λH sH=>?_);exact rfl
theorem AllArgs.take' {h:Vw}:∀ (i:Nat) {l:List Ex} {vs:List Value},AllArgs h l vs -> AllArgs h (l.take i) (vs.take i)
 | 0,l,vs,_=>by rw [List.take_zero,List.take_zero]; unfold AllArgs; rfl
 | i + 1,[],vs,k=>by unfold AllArgs at k; subst k; rw [List.take_nil,List.take_nil]; unfold AllArgs; rfl
 | i + 1,x :: l,vs,k=>by
  unfold AllArgs at k;obtain ⟨u,us',rfl,q1,q2⟩:=k;rw [List.take_succ_cons,List.take_succ_cons];unfold AllArgs;exact ⟨_,_,rfl,q1,AllArgs.take' i q2⟩
theorem fds_take {h:Vw} {A:Option Addr} {cap:Nat} {fs:List Fd} (hf:IsFds h (.slice A fs.length cap) fs) (k:Nat) (hk:k <= fs.length):IsFds h (.slice A k cap) (fs.take k):=by
 obtain ⟨vs,hr,hs⟩:=hf;have hl:=hs.len;refine ⟨vs.take k,?_,?_⟩
 ·have:=hr.take k (by rw [zK hl]; omega)
  rwa [show (xK fs vs).take k=xK (fs.take k) (vs.take k) from List.take_zipWith] at this
 ·unfold AllSrc;rw [List.map_take];exact AllArgs.take' k hs
theorem check_fields (fs:List Fd) (fv:Value) (h:Vw) (hf:OkFs fs) (hfs:IsFds h fv fs):C0 Tryz.prog 141 #[fv] h (λr _=>r=Vi 0):=by
 obtain ⟨vs,A,c,rfl,hc1,hc2,hr,hsrc,hvl,hsl⟩:=bQ hfs;have few:=hf.few;refine pQ Tryz.func141 λhbx hbad Q hQ=>?_;refine go0 13 [] [] ?_;refine tQ (t:=decide ((fs.length:Int) > 14)) (Kj (by omega)) ?_;refine go0 11 [] [] ?_;refine yQ [0,1,0,1,1] [.block 0,.seq [1,1,1]] (λ(k:Nat) X=>∃ (W1:Vw) ,X W1 [(0,.slice A fs.length c),(14,.slice A fs.length c),(15,Vi (fs.length:Int)),(16,Vi (k:Int))] [] [] /\ Sees h W1 /\ (k <= fs.length)) (λk=>fs.length - k) (0) (λX q=>⟨h,q _ _ _ _ ⟨rfl,by kernel_rfl⟩,Sees.refl _,Mj _⟩) ?_;rintro k a w ⟨W1,hJ,S2,hk⟩; refine dV hJ ?_; clear hJ a w;refine go0 6 [] [] ?_;rcases (by omega:k < fs.length\/k=fs.length) with hlt | hke
 ·obtain ⟨f,hfk⟩:∃ f,fs[k]?=some f:=⟨_,Gj (by omega)⟩;obtain ⟨u,huk⟩:∃ u,vs[k]?=some u:=⟨_,Gj (by omega)⟩;have hslu:=hsl u (Ej huk);have hrow:(xK fs vs)[k]?=some (fdRow f (sL u)):=by rw [hslu]; exact yK hfk huk
  have ha:IsArgs h f.src (sL u):=by rw [hslu]; exact AllArgs.get hsrc (x:=f.src) (by rw [Oj,hfk]; rfl) huk
  have hok:=hf.each f (Ej hfk);have hno:cQ (fs.take k) f.name = -1:=findF_none λy hy e=>by
   obtain ⟨j,hj⟩:=Fv.1 hy;rw [Gw] at hj
   split at hj
   ·rename_i hjk;have h1:(fs.map (λf:Fd=>f.name))[j]?=some f.name:=by rw [Oj,hj]; simp [e]
    have h2:(fs.map (λf:Fd=>f.name))[k]?=some f.name:=by rw [Oj,hfk]; rfl
    have:=(Bx (by rw [Ij]; omega) hf.nodup).1 (h1.trans h2.symm)
    omega
   ·cases hj
  have htk:=fds_take hfs k hk;refine jV (t:=decide ((k:Int) < (fs.length:Int))) (Jj (by omega)) ?_;refine go0 7 [] [] ?_;obtain ⟨b3,o4,rfl,-,c5⟩:=RS.row hr (hrow);refine qQ (c5.sees S2) ?_;refine go1 25 [.ix b3 o4 fs.length c k,.f 0 0,.own,.b 0 0,.b 0 0,.cl 122 #[.agg #[Vt f.name,Vi f.kind,Vi f.ty,Vi f.src.op,Vi f.src.k,Vi f.src.n,.string f.src.s,.string f.src.nm,sL u]] (Vi 0)] [] ?_ (ho:=(Aj (by first | omega | (simp; omega)) (Aj (λH sH=>right_any fs f _ _ hok (ha.sees (S2.trans sH))) (trivial))));intro b6;refine fV 11 0 [.pu,.pu,.v (λgh=>.slice (some ⟨b3,o4,none⟩) k c),.pu,.ld 0 0,.v (λgh=>.tuple #[Vi 0,Vi 5]),.pu,.pu,.pu,.pu,.pu] [] (trivial) ?_ ?_
  ·intro R hT hA hmono;refine Aj (t_p hT hA (λgh=>.slice (some ⟨b3,o4,none⟩) k c) (λgh w=>run_hi (t:=25) (e:=49) (x:=(.tmp 27)) (y:=(.tmp 28)) (A:=(some ⟨b3,o4,none⟩)) (n:=fs.length) (cap:=c) (k:=k) (kk:=9) (by kernel_rfl) (by kernel_rfl) (by kernel_rfl) (by omega) Tryz.underlying25 (by kernel_rfl))) ?_;refine Aj (t_v hT hA hmono (k:=96) (args:=(λgh=>#[.slice (some ⟨b3,o4,none⟩) k c,.string f.name])) (f:=λgh=>.tuple #[Vi 0,Vi 5]) (λgh H sH fH lent=>find_no (fs.take k) _ f.name _ (htk.sees (S2.trans sH)) (by rw [Ck]; omega) (by omega))) ?_
   trivial
  rintro W7 S8 -;refine go0 15 [] [(37,Vi (IntKind.i64.wrap ((k:Int) + 1)),Vi ((k:Int) + 1))] ?_ (hc:=(Aj (jJ (by omega) (by omega)) (trivial)));exact iV (k + 1) (λX q=>⟨W7,q _ _ _ _ ⟨rfl,by kernel_rfl⟩,(S2.trans S8),by omega⟩)
 ·skip;refine tQ (t:=decide ((k:Int) < (fs.length:Int))) (Kj (by omega)) ?_
  refine go0 2 [] [] ?_;refine xQ ?_;refine go0 11 [] [] ?_;refine yQ [0,1,0,1,1,1] [.block 2,.seq [1,1,1,1]] (λ(k2:Nat) X=>∃ (W9:Vw) ,X W9 [(0,.slice A fs.length c),(38,.slice A fs.length c),(39,Vi (fs.length:Int)),(40,Vi (k2:Int))] [] [] /\ Sees W1 W9 /\ (k2 <= fs.length)) (λk2=>fs.length - k2) (0) (λX q=>⟨W1,q _ _ _ _ ⟨rfl,by kernel_rfl⟩,Sees.refl _,Mj _⟩) ?_;rintro k2 a w ⟨W9,hJ,S10,hk2⟩; refine dV hJ ?_; clear hJ a w;refine go0 6 [] [] ?_;rcases (by omega:k2 < fs.length\/k2=fs.length) with hlt2 | hke2
  ·obtain ⟨f,hfk⟩:∃ f,fs[k2]?=some f:=⟨_,Gj (by omega)⟩;obtain ⟨u,huk⟩:∃ u,vs[k2]?=some u:=⟨_,Gj (by omega)⟩;have hslu:=hsl u (Ej huk);have hrow:(xK fs vs)[k2]?=some (fdRow f (sL u)):=by rw [hslu]; exact yK hfk huk
   have ha:IsArgs h f.src (sL u):=by rw [hslu]; exact AllArgs.get hsrc (x:=f.src) (by rw [Oj,hfk]; rfl) huk
   have hok:=hf.each f (Ej hfk);refine jV (t:=decide ((k2:Int) < (fs.length:Int))) (Jj (by omega)) ?_;refine go0 6 [] [] ?_;obtain ⟨b11,o12,rfl,-,c13⟩:=RS.row hr (hrow);refine qQ (c13.sees (S2.trans S10)) ?_;refine go1 28 [.ix b11 o12 fs.length c k2,.f 0 0,.own,.b 0 0,.b 0 0,.cl 187 #[.agg #[Vt f.name,Vi f.kind,Vi f.ty,Vi f.src.op,Vi f.src.k,Vi f.src.n,.string f.src.s,.string f.src.nm,sL u],.slice (some ⟨b11,o12,none⟩) fs.length c] (Vi 0)] [(50,Vi (IntKind.i64.wrap ((k2:Int) + 1)),Vi ((k2:Int) + 1))] ?_ (ho:=(Aj (by first | omega | (simp; omega)) (Aj (λH sH=>typed_any fs f _ _ _ hok (ha.sees (S2.trans (S10.trans sH))) (hfs.sees (S2.trans (S10.trans sH)))) (trivial)))) (hc:=(Aj (jJ (by omega) (by omega)) (trivial)));intro b14;exact iV (k2 + 1) (λX q=>⟨W9,q _ _ _ _ ⟨rfl,by kernel_rfl⟩,S10,by omega⟩)
  ·skip;refine tQ (t:=decide ((k2:Int) < (fs.length:Int))) (Kj (by omega)) ?_
   refine go0 2 [] [] ?_;refine xQ ?_;refine go0 8 [] [] ?_;refine hQ.to [Vi 0] (λH sH=>?_);exact rfl
section
variable {P:Program} {C:Fx} {E:List (Nat × Value)} {B:List Ent} {F:List Fac} {h:Vw} {a:Act} {w w':World} {Q:Exit -> Act -> World -> Prop} {c0:Code} {p:List Nat} {n:Nat} {ks:List Kt}
theorem own_sees (hJ:J C E B h a w) (i:Nat) {v:Value} {e:TypeId} {kk:Nat} {l:List (List Value)} (hB:B[i]?=some (.row v e kk l)):Sees h ⟨w,v.ownBlock.toList++C.bad0⟩ :=
 hJ.sees.less λb hb=>by
  rcases Qj.1 hb with q | q
  ·exact Ek _ (Fk.2 ⟨_,Ej hB,q⟩)
  ·exact Vj _ q
theorem own_apart (hJ:J C E B h a w) (i j:Nat) {v u:Value} {e e':TypeId} {kk kk':Nat} {l l':List (List Value)} (hB:B[i]?=some (.row v e kk l)) (hj:B[j]?=some (.row u e' kk' l')) (hne:Nat.beq i j=false) (hC:C.wr=[]):RS ⟨w,u.ownBlock.toList++C.bad0⟩ kk v l:=by
 have hm:=Ej hB;refine row_rs (hJ.ents _ hm) λb hb hbad=>?_;rcases Qj.1 hbad with q | q
 ·exact ent_apart hJ.nodup hB hj (Hx hne) b (by simp [Ent.blocks,hb]) (by simpa [Ent.blocks] using q)
 ·rcases hJ.own b (Fk.2 ⟨_,hm,by simp [Ent.blocks,hb]⟩) with g | g
  ·have:=hJ.badlt b q; omega
  ·rw [hC] at g; cases g
end
theorem names10 (k:Nat) (hk:k < 10) (h:Vw):C0 Tryz.prog 38 #[] h (λv h'=>∃ u,v=.slice (some ⟨uJ u,0,none⟩) 10 10 /\ Cells h' (uJ u) (0 + k * 1) [Vt (fname k)]):=by
 refine pQ Tryz.func38 λhbx hbad Q hQ=>?_;refine oV 12 [.fix] [] ?_;intro bs W1 S2;refine oQ 0 bs 0 [Vt ⟨#[97]⟩,.string ⟨#[98]⟩,.string ⟨#[99]⟩,.string ⟨#[100,97,121]⟩,.string ⟨#[101,49]⟩,.string ⟨#[102,101,101]⟩,.string ⟨#[103,111,110,101]⟩,.string ⟨#[104,111,109,101]⟩,.string ⟨#[105,116,101,109]⟩,.string ⟨#[106,111,98]⟩] λs=>?_;refine hQ.toJ [Vs bs 10 10] [] (λa w hJ=>?_);have c:Cells ⟨w,h.bad⟩ bs 0 (yY fnames).flatten:=(hJ.f (_,_,_) (Ej (i:=0) (by kernel_rfl))).sees hJ.j.out;exact ⟨.pointer (some ⟨bs,0,none⟩),rfl,RS.cell (rs_cells (k:=1) (yY fnames) (λr hr=>by obtain ⟨x,-,rfl⟩:=Rj.1 hr; rfl) (by decide) c) (fname_at hk)⟩
theorem fldT_step (l:List RawD) (k:Nat) {x:Ex} {n:Nat} (h:srcE l (fJ l k).1 (aJ l (fJ l k).2) (bJ l (fJ l k).2)=(x,n)) :
  (fJ l (k + 1)).1=(fJ l k).1++[⟨fname k,1 + cJ (aJ l (fJ l k).2).k 3,1 + cJ (aJ l (fJ l k).2).b 3,x⟩] /\ (fJ l (k + 1)).2=n:=by
 refine ⟨?_,?_⟩
 ·show (fJ l k).1++[_]=_; rw [h]
 ·show (srcE l (fJ l k).1 (aJ l (fJ l k).2) (bJ l (fJ l k).2)).2=_; rw [h]
theorem fld_src {l:List RawD} {k:Nat} {x:Ex} {u:Value} {h:Vw} {vs:List Value} (e:(fJ l (k + 1)).1=(fJ l k).1++[⟨fname k,1 + cJ (aJ l (fJ l k).2).k 3,1 + cJ (aJ l (fJ l k).2).b 3,x⟩])
  (hvs:AllSrc h (fJ l k).1 vs) (hu:IsArgs h x u):AllSrc h (fJ l (k + 1)).1 (vs++[u]):=by rw [e]; exact AllSrc.snoc hvs hu
theorem slu_snoc {vs:List Value} (h:∀ u∈vs,sL u=u) {v:Value} (hv:sL v=v):∀ u∈vs++[v],sL u=u:=λu hu=>(Qj.1 hu).elim (h u) (λe=>by rw [Pj.1 e]; exact hv)
theorem bnd2:bnd 2=22:=rfl
theorem bnd1:bnd 1=7:=rfl
theorem pgT_step (l:List RawD) (fs:List Fd) (n n0 k:Nat) {x:Ex} {m:Nat} (h:skipE l fs (aJ l (mJ l fs n n0 k).2) (bJ l (mJ l fs n n0 k).2)=(x,m)) :
  (mJ l fs n n0 (k + 1)).1=(mJ l fs n n0 k).1++[⟨kX k,lX fs n k,x⟩] /\ (mJ l fs n n0 (k + 1)).2=m:=by
 refine ⟨?_,?_⟩
 ·show (mJ l fs n n0 k).1++[_]=_; rw [h]
 ·show (skipE l fs (aJ l (mJ l fs n n0 k).2) (bJ l (mJ l fs n n0 k).2)).2=_; rw [h]
theorem byte_of (k:Nat) (h:k < 4):Value.int .u8 (IntKind.u8.wrap (49 + (k:Int)))=.int .u8 (((UInt8.ofNat (49 + k)).toNat:Nat):Int):=by
 match k,h with
 | 0,_=>rfl
 | 1,_=>rfl
 | 2,_=>rfl
 | 3,_=>rfl
theorem pg_name (k:Nat) (h:k < 4):Value.string ((⟨#[112]⟩:ByteArray)++⟨([UInt8.ofNat (49 + k)]).toArray⟩)=.string (kX k):=by
 match k,h with
 | 0,_=>rfl
 | 1,_=>rfl
 | 2,_=>rfl
 | 3,_=>rfl
theorem mod_eq (a n k:Nat):((a:Int) % ((n:Int) + 1) == (k:Int))=decide (a % (n + 1)=k):=by
 have e:(a:Int) % ((n:Int) + 1)=((a % (n + 1):Nat):Int):=(Int.natCast_emod a (n + 1)).symm;rw [e,Bool.eq_iff_iff,Xj,decide_eq_true_iff]; omega
theorem fdRows_one:∀ (fs:List Fd) (vs:List Value),(∀ v∈vs,sL v=v) -> ∀ r∈xK fs vs,∀ u∈r,u.oneCell'=true
 | [],_,_,r,hr=>by simp [xK] at hr
 | _ :: _,[],_,r,hr=>by simp [xK] at hr
 | f :: fs,v :: vs,h,r,hr=>by
  have hr:r∈fdRow f v :: xK fs vs:=hr;rcases Tj.1 hr with rfl | hr
  ·intro u hu;have hv:=h v (by simp);rw [<- hv] at hu;simp [fdRow] at hu;rcases hu with rfl | rfl | rfl | rfl | rfl | rfl | rfl | rfl | rfl <;> rfl
  ·exact fdRows_one fs vs (λv hv=>h v (by simp [hv])) r hr
theorem fdRows_rev (fs:List Fd) (vs:List Value) (h:vs.length=fs.length):(xK fs vs).reverse=xK fs.reverse vs.reverse:=by
 induction fs generalizing vs with
 | nil=>rw [Wq.1 (show vs.length=0 from h)]; rfl
 | cons f fs ih =>
  match vs,h with
  | v :: vs,h =>
   have h:vs.length=fs.length:=by simpa using h
   show (fdRow f v :: xK fs vs).reverse=_;rw [List.reverse_cons,ih vs h,List.reverse_cons,List.reverse_cons,aQ (by simpa using h)]
theorem AllSrc.rev {h:Vw} {fs:List Fd} {vs:List Value} (k:AllSrc h fs vs):AllSrc h fs.reverse vs.reverse:=by
 induction fs generalizing vs with
 | nil =>
  have e:=Wq.1 (show vs.length=0 from k.len);subst e; exact k
 | cons f fs ih =>
  have hl:=k.len
  match vs,hl with
  | v :: vs,hl =>
   obtain ⟨u,r,e,k1,k2⟩:=k;simp only [Qk] at e;obtain ⟨rfl,rfl⟩:=e;rw [List.reverse_cons,List.reverse_cons];exact AllSrc.snoc (ih k2) k1
def FormO (l:List RawD) (v u:Value) (fl:List (List Value)) (h:Vw):Prop:=∃ u2 vs,v=.agg #[u,u2] /\ fl=xK (gQ l).fields vs /\ AllSrc h (gQ l).fields vs /\ IsPgs h u2 (gQ l).pages
theorem form_o (l:List RawD) (sl:Value) (h:Vw) (hr:RS h 4 sl (l.map RawD.cs)) (hlen:l.length * 40 <= reachBytes) (hok:∀ r∈l,r.ok) :
  C0 Tryz.prog 10 #[sl] h (λv h'=>∃ u fl,Ent.ok h.w.heap.size h'.w (.row u 49 9 fl) /\ FormO l v u fl ⟨h'.w,u.ownBlock.toList++h'.bad⟩):=by
 obtain ⟨A,cap,rfl,-,-,-⟩:=hr.form;rw [Ij] at *;obtain ⟨nf1,nf2,nf3⟩:=lW l;have rok:=rawAt_ok hok 0;obtain ⟨⟨k0,k1⟩,⟨a0,a1⟩,⟨rb0,rb1⟩,-⟩:=rok;refine pQ Tryz.func10 λhbx hbad Q hQ=>?_;refine go3 21 [.own,.own,.own] [] ?_;intro br bg bf;refine lQ 1 (λH sH=>lV bg l (.slice A l.length cap) 0 _ (hr.sees sH) (by omega) hlen) ?_; rintro _ _ W1 S2 ⟨rfl,rfl⟩;refine go1 6 [.own,.b 0 0] [] ?_;intro bq;refine fV 7 0 [.pu,.ld 0 1,.f (λgh=>.slice (some ⟨uJ (gh 2),0,none⟩) 10 10) (λgh hh=>Cells hh (uJ (gh 2)) (0 + 0 * 1) [Vt (fname 0)]),.pu,.v (λgh=>Vi (cJ (aJ l 0).a 10)),.v (λgh=>Vi (1 + (cJ (aJ l 0).a 10))),.pu] [(2,false)] (Aj (λ_ _ _ s c=>c.sees s) (trivial)) ?_ ?_
 ·intro R hT hA hmono;refine Aj (vX hT hA hmono 22 (λu=>.slice (some ⟨uJ u,0,none⟩) 10 10) [] 2 38 (λgh=>#[]) (λgh H sH fH lent=>C0.facts (R:=R) (x:=gh) (i:=2) (n:=0) (F:=(λu=>.slice (some ⟨uJ u,0,none⟩) 10 10)) (G:=λu hh=>Cells hh (uJ u) (0 + 0 * 1) [Vt (fname 0)]) (f:=λgh hh=>Cells hh (uJ (gh 2)) (0 + 0 * 1) [Vt (fname 0)]) (names10 0 (by omega) _) (by kernel_rfl) (by kernel_rfl) (λ_ _ r=>r))) ?_;refine Aj (t_v hT hA hmono (k:=37) (args:=(λgh=>#[Vi ((aJ l 0).a),Vi 10])) (f:=λgh=>Vi (cJ (aJ l 0).a 10)) (λgh H sH fH lent=>yJ _ 10 _ a0 a1 (by omega) (by omega))) ?_;refine Aj (t_p hT hA (λgh=>Vi (1 + (cJ (aJ l 0).a 10))) (λgh w=>run_eq (by kernel_rfl) (jJ (by omega) (by omega)))) ?_
  trivial
 rintro u22 W3 S4 ⟨f22,-⟩;replace f22:Cells W3 (uJ u22) (0 + 0 * 1) [Vt (fname 0)]:=f22;refine qQ f22 ?_;refine go0 2 [] [] ?_;refine cV 49 9 ?_;refine yQ [0,1,0,1,1,1,1] [.block 0,.seq [1,1,1,1,1]] (λ(k:Nat) X=>∃ (W5:Vw) (v:Value) (vs:List Value),X W5 [(2,Vp br),(3,Vp bg),(4,Vp bf),(5,Vp bq),(25,Vi (1 + (cJ (aJ l 0).a 10))),(26,Vi (k:Int))] [.row v 49 9 (xK (fJ l k).1 vs),.box bq [Vi ((aJ l 0).k),Vi ((aJ l 0).a),Vi ((aJ l 0).b),.string ((aJ l 0).t)],.box bf [v,Vz],.box bg [.slice A l.length cap,Vi (((fJ l k).2:Nat):Int)],.box br [Vz,Vz]] [((uJ u22),0 + 0 * 1,[Vt (fname 0)])] /\ Sees W3 W5 /\ (k <= iJ l) /\ (AllSrc W5 (fJ l k).1 vs) /\ (∀ u∈vs,sL u=u)) (λk=>iJ l - k) (0) (λX q=>⟨W3,(Vz),[],q _ _ _ _ ⟨rfl,by kernel_rfl⟩,Sees.refl _,Mj _,by unfold AllSrc AllArgs; rfl,λ_ h=>by cases h⟩) ?_;rintro k a w ⟨W5,v,vs,hJ,S6,hk,hvs,hvl⟩; refine dV hJ ?_; clear hJ a w;refine go0 6 [] [] ?_;rcases (by omega:k < iJ l\/k=iJ l) with hlt | hke
 ·have fle:=fldT_le l k;obtain ⟨⟨rk0,rk1⟩,⟨ra0,ra1⟩,⟨rb0',rb1'⟩,-⟩:=rawAt_ok hok (fJ l k).2;have hE2:=exprC_all l (fJ l k).1 hlen hok (by rw [fQ]; omega) 2 (by omega);have hE1:=exprC_all l (fJ l k).1 hlen hok (by rw [fQ]; omega) 1 (by omega);have pk:=tX (aJ l (fJ l k).2).k 3 (by omega);have pb:=tX (aJ l (fJ l k).2).b 3 (by omega);have pa:=tX (aJ l (fJ l k).2).a 3 (by omega);have anx:=tJ l (fJ l k).2;refine jV (t:=decide ((k:Int) < (1 + (cJ (aJ l 0).a 10)))) (Jj (by omega)) ?_;refine go0 13 [] [] ?_;refine lQ 3 (λH sH=>lV bg l (.slice A l.length cap) (fJ l k).2 _ (hr.sees (S2.trans (S4.trans (S6.trans sH)))) (by omega) hlen) ?_; rintro _ _ W7 S8 ⟨rfl,rfl⟩;refine go1 5 [.own,.b 0 0] [] ?_;intro b9;refine fV 15 1 [.f (λgh=>.slice (some ⟨uJ (gh 0),0,none⟩) 10 10) (λgh hh=>Cells hh (uJ (gh 0)) (0 + k * 1) [Vt (fname k)]),.pu,.v (λgh=>.pointer (some ⟨uJ (gh 0),0 + k * 1,none⟩)),.v (λgh=>.string (fname k)),.pu,.ld 1 0,.v (λgh=>Vi (cJ (aJ l (fJ l k).2).k 3)),.v (λgh=>Vi (1 + (cJ (aJ l (fJ l k).2).k 3))),.pu,.ld 1 2,.v (λgh=>Vi (cJ (aJ l (fJ l k).2).b 3)),.v (λgh=>Vi (1 + (cJ (aJ l (fJ l k).2).b 3))),.pu,.al 0,.st 0 0] [(0,false),(13,true)] (Aj (λ_ _ _ s c=>c.sees s) (trivial)) ?_ ?_
  ·intro R hT hA hmono;refine Aj (vX hT hA hmono 31 (λu=>.slice (some ⟨uJ u,0,none⟩) 10 10) [] 0 38 (λgh=>#[]) (λgh H sH fH lent=>C0.facts (R:=R) (x:=gh) (i:=0) (n:=0) (F:=(λu=>.slice (some ⟨uJ u,0,none⟩) 10 10)) (G:=λu hh=>Cells hh (uJ u) (0 + k * 1) [Vt (fname k)]) (f:=λgh hh=>Cells hh (uJ (gh 0)) (0 + k * 1) [Vt (fname k)]) (names10 k (by omega) _) (by kernel_rfl) (by kernel_rfl) (λ_ _ r=>r))) ?_;refine Aj (t_p hT hA (λgh=>.pointer (some ⟨uJ (gh 0),0 + k * 1,none⟩)) (λgh w=>run_indexAddr (t:=100) (x:=(.tmp 31)) (y:=(.tmp 32)) (b:=uJ (gh 0)) (off:=0) (n:=10) (cap:=10) (k:=k) (e:=9) (kk:=1) (by kernel_rfl) (by kernel_rfl) (by kernel_rfl) ((by omega)) Tryz.underlying100 (by kernel_rfl))) ?_;refine Aj (r_loadfx hT hA 34 (λgh=>.string (fname k)) [2] 3 (by kernel_rfl) (by kernel_rfl) (by kernel_rfl) (λ_=>by kernel_rfl) 0 (0,λgh hh=>Cells hh (uJ (gh 0)) (0 + k * 1) [Vt (fname k)]) (by kernel_rfl) (by kernel_rfl) (λgh=>(uJ (gh 0))) (λgh=>(0 + k * 1)) (λgh=>[Vt (fname k)]) 0 (λ_ _ c=>c) 9 (.tmp 33) (by kernel_rfl) (λ_=>by kernel_rfl) (λ_=>by kernel_rfl)) ?_;refine Aj (t_v hT hA hmono (k:=37) (args:=(λgh=>#[Vi ((aJ l (fJ l k).2).k),Vi 3])) (f:=λgh=>Vi (cJ (aJ l (fJ l k).2).k 3)) (λgh H sH fH lent=>yJ _ 3 _ rk0 rk1 (by omega) (by omega))) ?_;refine Aj (t_p hT hA (λgh=>Vi (1 + (cJ (aJ l (fJ l k).2).k 3))) (λgh w=>run_eq (by kernel_rfl) (jJ (by omega) (by omega)))) ?_;refine Aj (t_v hT hA hmono (k:=37) (args:=(λgh=>#[Vi ((aJ l (fJ l k).2).b),Vi 3])) (f:=λgh=>Vi (cJ (aJ l (fJ l k).2).b 3)) (λgh H sH fH lent=>yJ _ 3 _ rb0' rb1' (by omega) (by omega))) ?_;refine Aj (t_p hT hA (λgh=>Vi (1 + (cJ (aJ l (fJ l k).2).b 3))) (λgh w=>run_eq (by kernel_rfl) (jJ (by omega) (by omega)))) ?_
   trivial
  rintro u31 b10 W11 S12 ⟨f31,-⟩;replace f31:Cells W11 (uJ u31) (0 + k * 1) [Vt (fname k)]:=f31;refine qQ f31 ?_;refine go0 15 [.b 0 1] [] ?_;have frl:(xK (fJ l k).1 vs).length=k:=by rw [zK hvs.len,fQ]
  have hvn:=hvs.len;have b2:=bnd2;have b1:=bnd1
  by_cases q1:cJ (aJ l (fJ l k).2).k 3=1
  ·obtain ⟨e1,e2⟩:=fldT_step l k (show srcE l (fJ l k).1 (aJ l (fJ l k).2) (bJ l (fJ l k).2)=_ by unfold srcE; rw [Cj q1]);refine jV (t:=(1 + (cJ (aJ l (fJ l k).2).k 3)) == 2) (Xj.2 (by omega)) ?_;refine go0 6 [.b 0 2,.b 4 0] [] ?_;refine mQ 5 (λa w hJ=>hE2 bg (.slice A l.length cap) (bJ l (fJ l k).2) (1 + cJ (aJ l (fJ l k).2).b 3) _ _ _ (hr.sees (S2.trans (S4.trans (S6.trans (S8.trans (S12.trans hJ.j.sees)))))) (by omega) (by omega) (by omega) ⟨vs,(hJ.j.rowLent (v:=v) (e:=49) (k:=9) (l:=xK (fJ l k).1 vs) (b:=bg) (cs:=[.slice A l.length cap,Vi ((bJ l (fJ l k).2:Nat):Int)]) 2 5 (by kernel_rfl) (by kernel_rfl)),((hvs.sees (S8.trans (S12.trans hJ.j.sees)))).sees ((Sees.refl _).less (hJ.j.boxBad (b:=bg) (cs:=[.slice A l.length cap,Vi ((bJ l (fJ l k).2:Nat):Int)]) 5 (by kernel_rfl)))⟩ (by simp)) ?_; rintro _ _ W13 S14 ⟨u,rfl,rfl,hu⟩;refine oV 10 [.b 0 3,.b 4 0,.b 0 0,.fix] [] ?_;intro b15 W16 S17;refine goa0 10 [.ap 2 0 (xK (fJ l k).1 vs) [[Vt (fname k),Vi (1 + (cJ (aJ l (fJ l k).2).k 3)),Vi (1 + (cJ (aJ l (fJ l k).2).b 3)),Vi (((gJ l (fJ l k).1 2 (1 + cJ (aJ l (fJ l k).2).b 3) (bJ l (fJ l k).2)).1).op),Vi (((gJ l (fJ l k).1 2 (1 + cJ (aJ l (fJ l k).2).b 3) (bJ l (fJ l k).2)).1).k),Vi (((gJ l (fJ l k).1 2 (1 + cJ (aJ l (fJ l k).2).b 3) (bJ l (fJ l k).2)).1).n),.string (((gJ l (fJ l k).1 2 (1 + cJ (aJ l (fJ l k).2).b 3) (bJ l (fJ l k).2)).1).s),.string (((gJ l (fJ l k).1 2 (1 + cJ (aJ l (fJ l k).2).b 3) (bJ l (fJ l k).2)).1).nm),sL u]],.b 4 0] [(72,Vi (IntKind.i64.wrap ((k:Int) + 1)),Vi ((k:Int) + 1))] ?_ (ho:=(Aj (by rw [frl]; simp; omega) (trivial))) (hc:=(Aj (jJ (by omega) (by omega)) (trivial)));intro v70 W18 S19;refine wQ [(2,Vp br),(3,Vp bg),(4,Vp bf),(5,Vp bq),(25,Vi (1 + (cJ (aJ l 0).a 10))),(26,Vi ((k:Int) + 1))] [.row (sL v70) 49 9 ((xK (fJ l k).1 vs)++[[Vt (fname k),Vi (1 + (cJ (aJ l (fJ l k).2).k 3)),Vi (1 + (cJ (aJ l (fJ l k).2).b 3)),Vi (((gJ l (fJ l k).1 2 (1 + cJ (aJ l (fJ l k).2).b 3) (bJ l (fJ l k).2)).1).op),Vi (((gJ l (fJ l k).1 2 (1 + cJ (aJ l (fJ l k).2).b 3) (bJ l (fJ l k).2)).1).k),Vi (((gJ l (fJ l k).1 2 (1 + cJ (aJ l (fJ l k).2).b 3) (bJ l (fJ l k).2)).1).n),.string (((gJ l (fJ l k).1 2 (1 + cJ (aJ l (fJ l k).2).b 3) (bJ l (fJ l k).2)).1).s),.string (((gJ l (fJ l k).1 2 (1 + cJ (aJ l (fJ l k).2).b 3) (bJ l (fJ l k).2)).1).nm),sL u]]),.box bq [Vi ((aJ l 0).k),Vi ((aJ l 0).a),Vi ((aJ l 0).b),.string ((aJ l 0).t)],.box bf [sL v70,Vz],.box bg [.slice A l.length cap,Vi (((gJ l (fJ l k).1 2 (1 + cJ (aJ l (fJ l k).2).b 3) (bJ l (fJ l k).2)).2:Nat):Int)],.box br [Vz,Vz]] [((uJ u22),0 + 0 * 1,[Vt (fname 0)])] ?_;exact iV (k + 1) (λX q=>⟨W18,sL v70,vs++[sL u],q _ _ _ _ (mY (by rw [e1,aQ hvn,e2]; try rfl)),(S6.trans (S8.trans (S12.trans (S14.trans (S17.trans S19))))),by omega,fld_src e1 (hvs.sees (S8.trans (S12.trans (S14.trans (S17.trans S19))))) (hu.sees (S17.trans S19)),slu_snoc hvl rfl⟩)
  ·skip
   by_cases q2:cJ (aJ l (fJ l k).2).k 3=2
   ·obtain ⟨e1,e2⟩:=fldT_step l k (show srcE l (fJ l k).1 (aJ l (fJ l k).2) (bJ l (fJ l k).2)=_ by unfold srcE; rw [Bj q1,Cj q2]);refine tQ (t:=(1 + (cJ (aJ l (fJ l k).2).k 3)) == 2) (Lj.2 (by omega)) ?_;refine go0 6 [] [] ?_;refine jV (t:=(1 + (cJ (aJ l (fJ l k).2).k 3)) == 3) (Xj.2 (by omega)) ?_;refine fV 10 0 [.pu,.pu,.ld 1 1,.v (λgh=>Vi (cJ (aJ l (fJ l k).2).a 3)),.v (λgh=>Vi (1 + (cJ (aJ l (fJ l k).2).a 3))),.pu,.ld 4 0,.ef (λgh=>.agg #[Vi (((gJ l (fJ l k).1 1 (1 + cJ (aJ l (fJ l k).2).a 3) (bJ l (fJ l k).2)).1).op),Vi (((gJ l (fJ l k).1 1 (1 + cJ (aJ l (fJ l k).2).a 3) (bJ l (fJ l k).2)).1).k),Vi (((gJ l (fJ l k).1 1 (1 + cJ (aJ l (fJ l k).2).a 3) (bJ l (fJ l k).2)).1).n),.string (((gJ l (fJ l k).1 1 (1 + cJ (aJ l (fJ l k).2).a 3) (bJ l (fJ l k).2)).1).s),.string (((gJ l (fJ l k).1 1 (1 + cJ (aJ l (fJ l k).2).a 3) (bJ l (fJ l k).2)).1).nm),sL (gh 7)]) 5 (λgh=>.box bg [.slice A l.length cap,Vi (((gJ l (fJ l k).1 1 (1 + cJ (aJ l (fJ l k).2).a 3) (bJ l (fJ l k).2)).2:Nat):Int)]) (λgh hh=>IsArgs hh (gJ l (fJ l k).1 1 (1 + cJ (aJ l (fJ l k).2).a 3) (bJ l (fJ l k).2)).1 (sL (gh 7))),.pu,.st 0 3] [(7,false)] (Aj (λ_ _ _ s c=>c.sees s) (trivial)) ?_ ?_
    ·intro R hT hA hmono;refine Aj (t_v hT hA hmono (k:=37) (args:=(λgh=>#[Vi ((aJ l (fJ l k).2).a),Vi 3])) (f:=λgh=>Vi (cJ (aJ l (fJ l k).2).a 3)) (λgh H sH fH lent=>yJ _ 3 _ ra0 ra1 (by omega) (by omega))) ?_;refine Aj (t_p hT hA (λgh=>Vi (1 + (cJ (aJ l (fJ l k).2).a 3))) (λgh w=>run_eq (by kernel_rfl) (jJ (by omega) (by omega)))) ?_;refine Aj (r_call1r hT hA hmono ⟨λ_ _=>by kernel_rfl,λ_ _=>by kernel_rfl,λ_ _=>by kernel_rfl⟩ 64 (λu=>.agg #[Vi ((gJ l (fJ l k).1 1 (1 + cJ (aJ l (fJ l k).2).a 3) (bJ l (fJ l k).2)).1).op,Vi ((gJ l (fJ l k).1 1 (1 + cJ (aJ l (fJ l k).2).a 3) (bJ l (fJ l k).2)).1).k,Vi ((gJ l (fJ l k).1 1 (1 + cJ (aJ l (fJ l k).2).a 3) (bJ l (fJ l k).2)).1).n,.string ((gJ l (fJ l k).1 1 (1 + cJ (aJ l (fJ l k).2).a 3) (bJ l (fJ l k).2)).1).s,.string ((gJ l (fJ l k).1 1 (1 + cJ (aJ l (fJ l k).2).a 3) (bJ l (fJ l k).2)).1).nm,sL u]) [0,3,4,6] 7 (by kernel_rfl) (λ_=>by kernel_rfl) 5 (GN R 5) (by kernel_rfl) (by kernel_rfl) (by kernel_rfl) bg (λgh=>[.slice A l.length cap,Vi ((bJ l (fJ l k).2:Nat):Int)]) (λgh=>[.slice A l.length cap,Vi (((gJ l (fJ l k).1 1 (1 + cJ (aJ l (fJ l k).2).a 3) (bJ l (fJ l k).2)).2:Nat):Int)]) (λ_=>by kernel_rfl) (λ_=>by kernel_rfl) 2 (GN R 2) (by kernel_rfl) (by kernel_rfl) v 49 9 (xK (fJ l k).1 vs) (λ_=>by kernel_rfl) 39 (λgh=>#[Vp bg,Vi (1 + (cJ (aJ l (fJ l k).2).a 3)),v,Vi 1]) (λ_ _=>by kernel_rfl) (λgh H sH fH rL bL=>C1.facts (R:=R) (x:=gh) (N':=λgh=>[.slice A l.length cap,Vi (((gJ l (fJ l k).1 1 (1 + cJ (aJ l (fJ l k).2).a 3) (bJ l (fJ l k).2)).2:Nat):Int)]) (i:=7) (n:=0) (F:=(λu=>.agg #[Vi ((gJ l (fJ l k).1 1 (1 + cJ (aJ l (fJ l k).2).a 3) (bJ l (fJ l k).2)).1).op,Vi ((gJ l (fJ l k).1 1 (1 + cJ (aJ l (fJ l k).2).a 3) (bJ l (fJ l k).2)).1).k,Vi ((gJ l (fJ l k).1 1 (1 + cJ (aJ l (fJ l k).2).a 3) (bJ l (fJ l k).2)).1).n,.string ((gJ l (fJ l k).1 1 (1 + cJ (aJ l (fJ l k).2).a 3) (bJ l (fJ l k).2)).1).s,.string ((gJ l (fJ l k).1 1 (1 + cJ (aJ l (fJ l k).2).a 3) (bJ l (fJ l k).2)).1).nm,sL u])) (N:=λu=>[.slice A l.length cap,Vi (((gJ l (fJ l k).1 1 (1 + cJ (aJ l (fJ l k).2).a 3) (bJ l (fJ l k).2)).2:Nat):Int)]) (G:=λu hh=>IsArgs hh (gJ l (fJ l k).1 1 (1 + cJ (aJ l (fJ l k).2).a 3) (bJ l (fJ l k).2)).1 (sL u)) (f:=λgh hh=>IsArgs hh (gJ l (fJ l k).1 1 (1 + cJ (aJ l (fJ l k).2).a 3) (bJ l (fJ l k).2)).1 (sL (gh 7))) (hE1 bg (.slice A l.length cap) (bJ l (fJ l k).2) (1 + cJ (aJ l (fJ l k).2).a 3) _ _ _ (hr.sees (S2.trans (S4.trans (S6.trans (S8.trans (S12.trans sH)))))) (by omega) (by omega) (by omega) ⟨vs,rL,((hvs.sees (S8.trans (S12.trans sH)))).sees ((Sees.refl _).less bL)⟩ (by simp)) (by kernel_rfl) (by kernel_rfl) (λ_=>by kernel_rfl) (λ_ _ r=>r))) ?_
     trivial
    rintro u W20 S21 ⟨hu,-⟩;replace hu:IsArgs W20 (gJ l (fJ l k).1 1 (1 + cJ (aJ l (fJ l k).2).a 3) (bJ l (fJ l k).2)).1 (sL u):=hu;refine oV 7 [.b 4 0,.b 0 0,.fix] [] ?_;intro b22 W23 S24;refine goa0 10 [.ap 2 0 (xK (fJ l k).1 vs) [[Vt (fname k),Vi (1 + (cJ (aJ l (fJ l k).2).k 3)),Vi (1 + (cJ (aJ l (fJ l k).2).b 3)),Vi (((gJ l (fJ l k).1 1 (1 + cJ (aJ l (fJ l k).2).a 3) (bJ l (fJ l k).2)).1).op),Vi (((gJ l (fJ l k).1 1 (1 + cJ (aJ l (fJ l k).2).a 3) (bJ l (fJ l k).2)).1).k),Vi (((gJ l (fJ l k).1 1 (1 + cJ (aJ l (fJ l k).2).a 3) (bJ l (fJ l k).2)).1).n),.string (((gJ l (fJ l k).1 1 (1 + cJ (aJ l (fJ l k).2).a 3) (bJ l (fJ l k).2)).1).s),.string (((gJ l (fJ l k).1 1 (1 + cJ (aJ l (fJ l k).2).a 3) (bJ l (fJ l k).2)).1).nm),sL u]],.b 4 0] [(72,Vi (IntKind.i64.wrap ((k:Int) + 1)),Vi ((k:Int) + 1))] ?_ (ho:=(Aj (by rw [frl]; simp; omega) (trivial))) (hc:=(Aj (jJ (by omega) (by omega)) (trivial)));intro v70 W25 S26;refine wQ [(2,Vp br),(3,Vp bg),(4,Vp bf),(5,Vp bq),(25,Vi (1 + (cJ (aJ l 0).a 10))),(26,Vi ((k:Int) + 1))] [.row (sL v70) 49 9 ((xK (fJ l k).1 vs)++[[Vt (fname k),Vi (1 + (cJ (aJ l (fJ l k).2).k 3)),Vi (1 + (cJ (aJ l (fJ l k).2).b 3)),Vi (((gJ l (fJ l k).1 1 (1 + cJ (aJ l (fJ l k).2).a 3) (bJ l (fJ l k).2)).1).op),Vi (((gJ l (fJ l k).1 1 (1 + cJ (aJ l (fJ l k).2).a 3) (bJ l (fJ l k).2)).1).k),Vi (((gJ l (fJ l k).1 1 (1 + cJ (aJ l (fJ l k).2).a 3) (bJ l (fJ l k).2)).1).n),.string (((gJ l (fJ l k).1 1 (1 + cJ (aJ l (fJ l k).2).a 3) (bJ l (fJ l k).2)).1).s),.string (((gJ l (fJ l k).1 1 (1 + cJ (aJ l (fJ l k).2).a 3) (bJ l (fJ l k).2)).1).nm),sL u]]),.box bq [Vi ((aJ l 0).k),Vi ((aJ l 0).a),Vi ((aJ l 0).b),.string ((aJ l 0).t)],.box bf [sL v70,Vz],.box bg [.slice A l.length cap,Vi (((gJ l (fJ l k).1 1 (1 + cJ (aJ l (fJ l k).2).a 3) (bJ l (fJ l k).2)).2:Nat):Int)],.box br [Vz,Vz]] [((uJ u22),0 + 0 * 1,[Vt (fname 0)])] ?_;exact iV (k + 1) (λX q=>⟨W25,sL v70,vs++[sL u],q _ _ _ _ (mY (by rw [e1,aQ hvn,e2]; try rfl)),(S6.trans (S8.trans (S12.trans (S21.trans (S24.trans S26))))),by omega,fld_src e1 (hvs.sees (S8.trans (S12.trans (S21.trans (S24.trans S26))))) (hu.sees (S24.trans S26)),slu_snoc hvl rfl⟩)
   ·skip;obtain ⟨e1,e2⟩:=fldT_step l k (show srcE l (fJ l k).1 (aJ l (fJ l k).2) (bJ l (fJ l k).2)=_ by unfold srcE; rw [Bj q1,Bj q2])
    refine tQ (t:=(1 + (cJ (aJ l (fJ l k).2).k 3)) == 2) (Lj.2 (by omega)) ?_;refine go0 6 [] [] ?_;refine tQ (t:=(1 + (cJ (aJ l (fJ l k).2).k 3)) == 3) (Lj.2 (by omega)) ?_;refine oV 8 [.b 4 0,.b 0 0,.fix] [] ?_;intro b27 W28 S29;refine goa0 10 [.ap 2 0 (xK (fJ l k).1 vs) [[Vt (fname k),Vi (1 + (cJ (aJ l (fJ l k).2).k 3)),Vi (1 + (cJ (aJ l (fJ l k).2).b 3)),Vi 0,Vi 0,Vi 0,Ve,Ve,Vz]],.b 4 0] [(72,Vi (IntKind.i64.wrap ((k:Int) + 1)),Vi ((k:Int) + 1))] ?_ (ho:=(Aj (by rw [frl]; simp; omega) (trivial))) (hc:=(Aj (jJ (by omega) (by omega)) (trivial)));intro v70 W30 S31;refine wQ [(2,Vp br),(3,Vp bg),(4,Vp bf),(5,Vp bq),(25,Vi (1 + (cJ (aJ l 0).a 10))),(26,Vi ((k:Int) + 1))] [.row (sL v70) 49 9 ((xK (fJ l k).1 vs)++[[Vt (fname k),Vi (1 + (cJ (aJ l (fJ l k).2).k 3)),Vi (1 + (cJ (aJ l (fJ l k).2).b 3)),Vi 0,Vi 0,Vi 0,Ve,Ve,Vz]]),.box bq [Vi ((aJ l 0).k),Vi ((aJ l 0).a),Vi ((aJ l 0).b),.string ((aJ l 0).t)],.box bf [sL v70,Vz],.box bg [.slice A l.length cap,Vi ((bJ l (fJ l k).2:Nat):Int)],.box br [Vz,Vz]] [((uJ u22),0 + 0 * 1,[Vt (fname 0)])] ?_;exact iV (k + 1) (λX q=>⟨W30,sL v70,vs++[Vz],q _ _ _ _ (mY (by rw [e1,aQ hvn,e2]; try rfl)),(S6.trans (S8.trans (S12.trans (S29.trans S31)))),by omega,fld_src e1 (hvs.sees (S8.trans (S12.trans (S29.trans S31)))) (sJ _ _ rfl),slu_snoc hvl rfl⟩)
 ·skip;subst hke
  have tle:=fldT_le l (iJ l);have fle:=fQ l (iJ l);have frl:(xK (fJ l (iJ l)).1 vs).length=iJ l:=by rw [zK hvs.len,fle]
  have hskp:∀ d,d < 1000 -> ExprC l (fJ l (iJ l)).1 d:=exprC_all l _ hlen hok (by omega);have hE1:=hskp 1 (by omega);have hfm:gQ l=⟨if cJ (aJ l 0).k 2=0 then (fJ l (iJ l)).1.reverse else (fJ l (iJ l)).1,(mJ l (fJ l (iJ l)).1 (eJ l) (fJ l (iJ l)).2 (eJ l)).1⟩:=rfl;generalize fJ l (iJ l)=T at *;refine uQ 0 (v:=v) (e:=49) (kk:=9) (l:=xK T.1 vs) ?_; intro Af cf hE_v hc_v hm_v;rw [show (xK T.1 vs).length=(iJ l) from by first | omega | (simp; done) | (simp; omega)] at hE_v hc_v;rw [hE_v];refine g_get (λa w hJ=>own_some (hJ.rowOwn (v:=.slice Af (iJ l) cf) (e:=49) (kk:=9) (l:=xK T.1 vs) 0 (by kernel_rfl)) ((by omega))) ?_; rintro ⟨bF,rfl⟩;obtain ⟨np1,np2,np3⟩:=nPages_le l;refine tQ (t:=decide (((iJ l:Nat):Int) < (1 + (cJ (aJ l 0).a 10)))) (Kj (by omega)) ?_;refine go0 2 [] [] ?_;refine xQ ?_;refine go0 19 [.b 1 2,.cl 37 #[Vi ((aJ l 0).b),Vi 4] (Vi (cJ (aJ l 0).b 4))] [(76,Vi (IntKind.i64.wrap (1 + (cJ (aJ l 0).b 4))),Vi ((eJ l:Nat):Int))] ?_ (ho:=(Aj (λH sH=>yJ _ 4 _ rb0 rb1 (by omega) (by omega)) (trivial))) (hc:=(Aj (by rw [np3]; exact jJ (by omega) (by omega)) (trivial)));refine cV 105 8 ?_;refine yQ [0,1,0,1,1,1,1,1,1] [.block 3,.seq [1,1,1,1,1,1,1]] (λ(kp:Nat) X=>∃ (W32:Vw) (pv:Value) (us:List Value) (ws:List Value),X W32 [(2,Vp br),(3,Vp bg),(4,Vp bf),(5,Vp bq),(9,Vi ((eJ l:Nat):Int)),(77,Vi ((eJ l:Nat):Int)),(78,Vi (kp:Int))] [.row pv 105 8 (mX (mJ l T.1 (eJ l) T.2 kp).1 us ws),.row (Vs bF (iJ l) cf) 49 9 (xK T.1 vs),.box bq [Vi ((aJ l 0).k),Vi ((aJ l 0).a),Vi ((aJ l 0).b),.string ((aJ l 0).t)],.box bf [Vs bF (iJ l) cf,pv],.box bg [.slice A l.length cap,Vi (((mJ l T.1 (eJ l) T.2 kp).2:Nat):Int)],.box br [Vz,Vz]] [((uJ u22),0 + 0 * 1,[Vt (fname 0)])] /\ Sees W5 W32 /\ (kp <= eJ l) /\ (AllStr W32 ((mJ l T.1 (eJ l) T.2 kp).1.map (·.fields)) us) /\ (AllArgs W32 ((mJ l T.1 (eJ l) T.2 kp).1.map (·.skip)) ws) /\ (∀ u∈us,sL u=u) /\ (∀ u∈ws,sL u=u)) (λkp=>eJ l - kp) (0) (λX q=>⟨W5,(Vz),[],[],q _ _ _ _ ⟨rfl,by kernel_rfl⟩,Sees.refl _,Mj _,rfl,by unfold AllArgs; rfl,(λ_ h=>by cases h),λ_ h=>by cases h⟩) ?_;rintro kp a w ⟨W32,pv,us,ws,hJ,S33,hkp,hus,hws,hul,hwl⟩; refine dV hJ ?_; clear hJ a w;refine go0 6 [] [] ?_;rcases (by omega:kp < eJ l\/kp=eJ l) with hpl | hpe
  ·have ple:=pgT_le l T.1 (eJ l) T.2 kp;have anp:=tJ l (mJ l T.1 (eJ l) T.2 kp).2;obtain ⟨⟨rk0,rk1⟩,-,-,-⟩:=rawAt_ok hok (mJ l T.1 (eJ l) T.2 kp).2;refine jV (t:=decide ((kp:Int) < ((eJ l:Nat):Int))) (Jj (by omega)) ?_;refine go0 13 [] [] ?_;refine lQ 4 (λH sH=>lV bg l (.slice A l.length cap) (mJ l T.1 (eJ l) T.2 kp).2 _ (hr.sees (S2.trans (S4.trans (S6.trans (S33.trans sH))))) (by omega) hlen) ?_; rintro _ _ W34 S35 ⟨rfl,rfl⟩;refine go1 8 [.own,.b 0 0] [(84,Vi (IntKind.i64.wrap (49 + (kp:Int))),Vi (49 + (kp:Int)))] ?_ (hc:=(Aj (jJ (by omega) (by omega)) (trivial)));intro b36;refine eV (.int .u8 (((UInt8.ofNat (49 + kp)).toNat:Nat):Int)) (λw=>run_eq (v0:=.int .u8 (IntKind.u8.wrap (49 + (kp:Int)))) (by kernel_rfl) (byte_of kp (by omega))) ?_;refine oV 1 [.fix] [] ?_;intro bz W37 S38;refine oQ 0 bz 0 [.int .u8 (((UInt8.ofNat (49 + kp)).toNat:Nat):Int)] λz=>?_;refine g_purew (Vt ⟨([UInt8.ofNat (49 + kp)]).toArray⟩) (λa w hJ=>run_text (src:=103) (dst:=9) (x:=(.tmp 86)) (b:=bz) (m:=1) (cap:=1) (l:=[UInt8.ofNat (49 + kp)]) (by kernel_rfl) (by kernel_rfl) (by kernel_rfl) Tryz.underlying103 Tryz.underlying5 Tryz.underlying9 (hJ.f (bz,0,_) (Ej (i:=0) (by kernel_rfl))) hJ.j.sees) ?_;refine go1 16 [.own,.b 0 0,.b 5 0] [(88,.string (⟨#[112]⟩++⟨([UInt8.ofNat (49 + kp)]).toArray⟩),.string (kX kp))] ?_ (hc:=(Aj (pg_name kp (by omega)) (trivial)));intro bp;refine cV 9 1 ?_;refine yQ [0,1,0,1,1,1,0,0,1,1,0,0,1,0,1,1,1,1,1,1] [.block 5,.seq [1,1,1,1,0,0,1,1,0,0,1,0,1,1,1,1,1,1],.block 4,.seq [1,1,1,0,0,1,0,1,1,1,1,1,1]] (λ(ki:Nat) X=>∃ (W39:Vw) (nv:Value),X W39 [(2,Vp br),(3,Vp bg),(4,Vp bf),(5,Vp bq),(9,Vi ((eJ l:Nat):Int)),(77,Vi ((eJ l:Nat):Int)),(78,Vi (kp:Int)),(10,Vi (kp:Int)),(11,Vp b36),(12,Vp bp),(91,Vs bF (iJ l) cf),(92,Vi (iJ l:Int)),(93,Vi (ki:Int))] [.row nv 9 1 (yY (lX (T.1.take ki) (eJ l) kp)),.box bp [Vt (kX kp),nv,Vi 0,Vi 0,Vi 0,Ve,Ve,Vz],.box b36 [Vi ((aJ l (mJ l T.1 (eJ l) T.2 kp).2).k),Vi ((aJ l (mJ l T.1 (eJ l) T.2 kp).2).a),Vi ((aJ l (mJ l T.1 (eJ l) T.2 kp).2).b),.string ((aJ l (mJ l T.1 (eJ l) T.2 kp).2).t)],.row pv 105 8 (mX (mJ l T.1 (eJ l) T.2 kp).1 us ws),.row (Vs bF (iJ l) cf) 49 9 (xK T.1 vs),.box bq [Vi ((aJ l 0).k),Vi ((aJ l 0).a),Vi ((aJ l 0).b),.string ((aJ l 0).t)],.box bf [Vs bF (iJ l) cf,pv],.box bg [.slice A l.length cap,Vi ((bJ l (mJ l T.1 (eJ l) T.2 kp).2:Nat):Int)],.box br [Vz,Vz]] [(bz,0,[.int .u8 (((UInt8.ofNat (49 + kp)).toNat:Nat):Int)]),((uJ u22),0 + 0 * 1,[Vt (fname 0)])] /\ Sees W37 W39 /\ (ki <= iJ l)) (λki=>iJ l - ki) (0) (λX q=>⟨W37,(Vz),q _ _ _ _ ⟨rfl,by kernel_rfl⟩,Sees.refl _,Mj _⟩) ?_;rintro ki a w ⟨W39,nv,hJ,S40,hki⟩; refine dV hJ ?_; clear hJ a w;refine go0 6 [] [] ?_;rcases (by omega:ki < iJ l\/ki=iJ l) with hil | hie
   ·obtain ⟨f,hfk⟩:∃ f,T.1[ki]?=some f:=⟨_,Gj (by omega)⟩;obtain ⟨u,huk⟩:∃ u,vs[ki]?=some u:=⟨_,Gj (by have:=hvs.len; omega)⟩;have hslu:=hvl u (Ej huk);have hrow:(xK T.1 vs)[ki]?=some (fdRow f (sL u)):=by rw [hslu]; exact yK hfk huk
    have hsn:=pgNames_snoc (T.1.take ki) (eJ l) kp f ki (by rw [Ck]; omega);rw [<- cZ T.1 ki f hfk] at hsn;have hnl:=pgNames_len (T.1.take ki) (eJ l) kp;rw [Ck] at hnl;have hme:=mod_eq ki (eJ l) kp;refine jV (t:=decide ((ki:Int) < (iJ l:Int))) (Jj (by omega)) ?_;refine go0 8 [.ix bF 0 (iJ l) cf ki] [] ?_ (ho:=(Aj (by first | omega | (simp; omega)) (trivial)));refine g_rowget 4 ki 0 (g:=bF) (m:=(iJ l)) (cap:=cf) (kk:=9) (e:=49) (l:=xK T.1 vs) (r:=[Vt f.name,Vi f.kind,Vi f.ty,Vi f.src.op,Vi f.src.k,Vi f.src.n,.string f.src.s,.string f.src.nm,sL u]) (t:=49) (x:=(.tmp 96)) (v:=.agg #[Vt f.name,Vi f.kind,Vi f.ty,Vi f.src.op,Vi f.src.k,Vi f.src.n,.string f.src.s,.string f.src.nm,sL u]) (hrow) ?_;refine go1 10 [.own,.b 0 0] [(100,Vi (IntKind.i64.wrap (((eJ l:Nat):Int) + 1)),Vi (((eJ l:Nat):Int) + 1))] ?_ (hc:=(Aj (jJ (by omega) (by omega)) (trivial)));intro b41;refine eV (Vi ((ki:Int) % (((eJ l:Nat):Int) + 1))) (λw=>run_bin (op:=.rem) (t:=3) (x:=(.tmp 98)) (y:=(.tmp 100)) (yt:=3) (by kernel_rfl) (by kernel_rfl) (by kernel_rfl) (by kernel_rfl) (run_rem (ki:Int) (((eJ l:Nat):Int) + 1) w (by omega) (by omega))) ?_;refine go0 4 [] [] ?_
    by_cases hq:ki % (eJ l + 1)=kp
    ·rw [Cj hq] at hsn;rw [Jj hq] at hme;refine jV (t:=((ki:Int) % (((eJ l:Nat):Int) + 1)) == (kp:Int)) (hme) ?_;refine oV 6 [.b 2 1,.b 0 0,.fix] [] ?_;intro b42 W43 S44;refine goa0 10 [.ap 1 0 (yY (lX (T.1.take ki) (eJ l) kp)) [[Vt f.name]],.b 2 1] [(111,Vi (IntKind.i64.wrap ((ki:Int) + 1)),Vi ((ki:Int) + 1))] ?_ (ho:=(Aj (by simp; omega) (trivial))) (hc:=(Aj (jJ (by omega) (by omega)) (trivial)));intro nv2 W45 S46;refine wQ [(2,Vp br),(3,Vp bg),(4,Vp bf),(5,Vp bq),(9,Vi ((eJ l:Nat):Int)),(77,Vi ((eJ l:Nat):Int)),(78,Vi (kp:Int)),(10,Vi (kp:Int)),(11,Vp b36),(12,Vp bp),(91,Vs bF (iJ l) cf),(92,Vi (iJ l:Int)),(93,Vi ((ki:Int) + 1))] [.row (sL nv2) 9 1 ((yY (lX (T.1.take ki) (eJ l) kp))++[[Vt f.name]]),.box bp [Vt (kX kp),sL nv2,Vi 0,Vi 0,Vi 0,Ve,Ve,Vz],.box b36 [Vi ((aJ l (mJ l T.1 (eJ l) T.2 kp).2).k),Vi ((aJ l (mJ l T.1 (eJ l) T.2 kp).2).a),Vi ((aJ l (mJ l T.1 (eJ l) T.2 kp).2).b),.string ((aJ l (mJ l T.1 (eJ l) T.2 kp).2).t)],.row pv 105 8 (mX (mJ l T.1 (eJ l) T.2 kp).1 us ws),.row (Vs bF (iJ l) cf) 49 9 (xK T.1 vs),.box bq [Vi ((aJ l 0).k),Vi ((aJ l 0).a),Vi ((aJ l 0).b),.string ((aJ l 0).t)],.box bf [Vs bF (iJ l) cf,pv],.box bg [.slice A l.length cap,Vi ((bJ l (mJ l T.1 (eJ l) T.2 kp).2:Nat):Int)],.box br [Vz,Vz]] [(bz,0,[.int .u8 (((UInt8.ofNat (49 + kp)).toNat:Nat):Int)]),((uJ u22),0 + 0 * 1,[Vt (fname 0)])] ?_;exact iV (ki + 1) (λX q=>⟨W45,sL nv2,q _ _ _ _ (mY (by rw [hsn]; simp [yY])),(S40.trans (S44.trans S46)),by omega⟩)
    ·skip;rw [Bj hq] at hsn
     rw [Kj hq] at hme;refine tQ (t:=((ki:Int) % (((eJ l:Nat):Int) + 1)) == (kp:Int)) (hme) ?_;refine go0 7 [] [(111,Vi (IntKind.i64.wrap ((ki:Int) + 1)),Vi ((ki:Int) + 1))] ?_ (hc:=(Aj (jJ (by omega) (by omega)) (trivial)));refine wQ [(2,Vp br),(3,Vp bg),(4,Vp bf),(5,Vp bq),(9,Vi ((eJ l:Nat):Int)),(77,Vi ((eJ l:Nat):Int)),(78,Vi (kp:Int)),(10,Vi (kp:Int)),(11,Vp b36),(12,Vp bp),(91,Vs bF (iJ l) cf),(92,Vi (iJ l:Int)),(93,Vi ((ki:Int) + 1))] [.row nv 9 1 (yY (lX (T.1.take ki) (eJ l) kp)),.box bp [Vt (kX kp),nv,Vi 0,Vi 0,Vi 0,Ve,Ve,Vz],.box b36 [Vi ((aJ l (mJ l T.1 (eJ l) T.2 kp).2).k),Vi ((aJ l (mJ l T.1 (eJ l) T.2 kp).2).a),Vi ((aJ l (mJ l T.1 (eJ l) T.2 kp).2).b),.string ((aJ l (mJ l T.1 (eJ l) T.2 kp).2).t)],.row pv 105 8 (mX (mJ l T.1 (eJ l) T.2 kp).1 us ws),.row (Vs bF (iJ l) cf) 49 9 (xK T.1 vs),.box bq [Vi ((aJ l 0).k),Vi ((aJ l 0).a),Vi ((aJ l 0).b),.string ((aJ l 0).t)],.box bf [Vs bF (iJ l) cf,pv],.box bg [.slice A l.length cap,Vi ((bJ l (mJ l T.1 (eJ l) T.2 kp).2:Nat):Int)],.box br [Vz,Vz]] [(bz,0,[.int .u8 (((UInt8.ofNat (49 + kp)).toNat:Nat):Int)]),((uJ u22),0 + 0 * 1,[Vt (fname 0)])] ?_;exact iV (ki + 1) (λX q=>⟨W39,nv,q _ _ _ _ (mY (by rw [hsn]; try rfl)),S40,by omega⟩)
   ·skip;subst hie
    have htk:T.1.take (iJ l)=T.1:=by rw [<- fle,Pk]
    rw [htk];have spn:(yY (lX T.1 (eJ l) kp)).length=(lX T.1 (eJ l) kp).length:=Ij _;refine uQ 0 (v:=nv) (e:=9) (kk:=1) (l:=yY (lX T.1 (eJ l) kp)) ?_; intro An cn hE_nv hc_nv hm_nv;rw [show (yY (lX T.1 (eJ l) kp)).length=(lX T.1 (eJ l) kp).length from by first | omega | (simp; done) | (simp; omega)] at hE_nv hc_nv;rw [hE_nv];refine vQ 0 (v:=.slice An ((lX T.1 (eJ l) kp).length) cn) (e:=9) (kk:=1) (l:=yY (lX T.1 (eJ l) kp)) ?_; intro W47 S48 fnm;have prl:(mX (mJ l T.1 (eJ l) T.2 kp).1 us ws).length=kp:=by rw [nX (by rw [hus.len,Ij]) (by rw [hws.len,Ij]),pgT_len]
    have hul':us.length=(mJ l T.1 (eJ l) T.2 kp).1.length:=by rw [hus.len,Ij]
    have hwl':ws.length=(mJ l T.1 (eJ l) T.2 kp).1.length:=by rw [hws.len,Ij]
    have b1:=bnd1;refine tQ (t:=decide (((iJ l:Nat):Int) < (iJ l:Int))) (Kj (by omega)) ?_;refine go0 2 [] [] ?_;refine xQ ?_;refine go0 11 [.b 1 0,.cl 37 #[Vi ((aJ l (mJ l T.1 (eJ l) T.2 kp).2).k),Vi 2] (Vi (cJ (aJ l (mJ l T.1 (eJ l) T.2 kp).2).k 2))] [] ?_ (ho:=(Aj (λH sH=>yJ _ 2 _ rk0 rk1 (by omega) (by omega)) (trivial)))
    by_cases q0:cJ (aJ l (mJ l T.1 (eJ l) T.2 kp).2).k 2=0
    ·obtain ⟨e1,e2⟩:=pgT_step l T.1 (eJ l) T.2 kp (show skipE l T.1 (aJ l (mJ l T.1 (eJ l) T.2 kp).2) (bJ l (mJ l T.1 (eJ l) T.2 kp).2)=_ by unfold skipE; rw [Cj q0]);refine jV (t:=(cJ (aJ l (mJ l T.1 (eJ l) T.2 kp).2).k 2) == 0) (Xj.2 q0) ?_;refine go0 4 [.b 5 0] [] ?_;refine mQ 6 (λa w hJ=>hE1 bg (.slice A l.length cap) (bJ l (mJ l T.1 (eJ l) T.2 kp).2) 2 _ _ _ (hr.sees (S2.trans (S4.trans (S6.trans (S33.trans (S35.trans (S38.trans (S40.trans (S48.trans hJ.j.sees))))))))) (by omega) (by omega) (by omega) ⟨vs,(hJ.j.rowLent (v:=Vs bF (iJ l) cf) (e:=49) (k:=9) (l:=xK T.1 vs) (b:=bg) (cs:=[.slice A l.length cap,Vi ((bJ l (mJ l T.1 (eJ l) T.2 kp).2:Nat):Int)]) 3 6 (by kernel_rfl) (by kernel_rfl)),((hvs.sees (S33.trans (S35.trans (S38.trans (S40.trans (S48.trans hJ.j.sees))))))).sees ((Sees.refl _).less (hJ.j.boxBad (b:=bg) (cs:=[.slice A l.length cap,Vi ((bJ l (mJ l T.1 (eJ l) T.2 kp).2:Nat):Int)]) 6 (by kernel_rfl)))⟩ (by simp)) ?_; rintro _ _ W49 S50 ⟨u,rfl,rfl,hu⟩;refine oV 9 [.b 0 2,.b 5 1,.b 0 0,.fix] [] ?_;intro b51 W52 S53;refine goa0 10 [.ap 2 0 (mX (mJ l T.1 (eJ l) T.2 kp).1 us ws) [[Vt (kX kp),.slice An ((lX T.1 (eJ l) kp).length) cn,Vi (((gJ l T.1 1 2 (bJ l (mJ l T.1 (eJ l) T.2 kp).2)).1).op),Vi (((gJ l T.1 1 2 (bJ l (mJ l T.1 (eJ l) T.2 kp).2)).1).k),Vi (((gJ l T.1 1 2 (bJ l (mJ l T.1 (eJ l) T.2 kp).2)).1).n),.string (((gJ l T.1 1 2 (bJ l (mJ l T.1 (eJ l) T.2 kp).2)).1).s),.string (((gJ l T.1 1 2 (bJ l (mJ l T.1 (eJ l) T.2 kp).2)).1).nm),sL u]],.b 5 1] [(127,Vi (IntKind.i64.wrap ((kp:Int) + 1)),Vi ((kp:Int) + 1))] ?_ (ho:=(Aj (by rw [prl]; simp; omega) (trivial))) (hc:=(Aj (jJ (by omega) (by omega)) (trivial)));intro v125 W54 S55;refine wQ [(2,Vp br),(3,Vp bg),(4,Vp bf),(5,Vp bq),(9,Vi ((eJ l:Nat):Int)),(77,Vi ((eJ l:Nat):Int)),(78,Vi ((kp:Int) + 1))] [.row (sL v125) 105 8 ((mX (mJ l T.1 (eJ l) T.2 kp).1 us ws)++[[Vt (kX kp),.slice An ((lX T.1 (eJ l) kp).length) cn,Vi (((gJ l T.1 1 2 (bJ l (mJ l T.1 (eJ l) T.2 kp).2)).1).op),Vi (((gJ l T.1 1 2 (bJ l (mJ l T.1 (eJ l) T.2 kp).2)).1).k),Vi (((gJ l T.1 1 2 (bJ l (mJ l T.1 (eJ l) T.2 kp).2)).1).n),.string (((gJ l T.1 1 2 (bJ l (mJ l T.1 (eJ l) T.2 kp).2)).1).s),.string (((gJ l T.1 1 2 (bJ l (mJ l T.1 (eJ l) T.2 kp).2)).1).nm),sL u]]),.row (Vs bF (iJ l) cf) 49 9 (xK T.1 vs),.box bq [Vi ((aJ l 0).k),Vi ((aJ l 0).a),Vi ((aJ l 0).b),.string ((aJ l 0).t)],.box bf [Vs bF (iJ l) cf,sL v125],.box bg [.slice A l.length cap,Vi (((gJ l T.1 1 2 (bJ l (mJ l T.1 (eJ l) T.2 kp).2)).2:Nat):Int)],.box br [Vz,Vz]] [((uJ u22),0 + 0 * 1,[Vt (fname 0)])] ?_;exact iV (kp + 1) (λX q=>⟨W54,sL v125,us++[.slice An (lX T.1 (eJ l) kp).length cn],ws++[sL u],q _ _ _ _ (mY (by rw [e1,pgRows_snoc hul' hwl',e2]; try rfl)),(S33.trans (S35.trans (S38.trans (S40.trans (S48.trans (S50.trans (S53.trans S55))))))),by omega,by rw [e1,Mk]; exact AllStr.snoc (fnm.sees (S50.trans (S53.trans S55))) (hus.sees (S35.trans (S38.trans (S40.trans (S48.trans (S50.trans (S53.trans S55))))))),by rw [e1,Mk]; exact AllArgs.snoc (hu.sees (S53.trans S55)) (hws.sees (S35.trans (S38.trans (S40.trans (S48.trans (S50.trans (S53.trans S55))))))),slu_snoc hul rfl,slu_snoc hwl rfl⟩)
    ·skip;obtain ⟨e1,e2⟩:=pgT_step l T.1 (eJ l) T.2 kp (show skipE l T.1 (aJ l (mJ l T.1 (eJ l) T.2 kp).2) (bJ l (mJ l T.1 (eJ l) T.2 kp).2)=_ by unfold skipE; rw [Bj q0])
     refine tQ (t:=(cJ (aJ l (mJ l T.1 (eJ l) T.2 kp).2).k 2) == 0) (Lj.2 q0) ?_;refine oV 7 [.b 5 1,.b 0 0,.fix] [] ?_;intro b56 W57 S58;refine goa0 10 [.ap 2 0 (mX (mJ l T.1 (eJ l) T.2 kp).1 us ws) [[Vt (kX kp),.slice An ((lX T.1 (eJ l) kp).length) cn,Vi 0,Vi 0,Vi 0,Ve,Ve,Vz]],.b 5 1] [(127,Vi (IntKind.i64.wrap ((kp:Int) + 1)),Vi ((kp:Int) + 1))] ?_ (ho:=(Aj (by rw [prl]; simp; omega) (trivial))) (hc:=(Aj (jJ (by omega) (by omega)) (trivial)));intro v125 W59 S60;refine wQ [(2,Vp br),(3,Vp bg),(4,Vp bf),(5,Vp bq),(9,Vi ((eJ l:Nat):Int)),(77,Vi ((eJ l:Nat):Int)),(78,Vi ((kp:Int) + 1))] [.row (sL v125) 105 8 ((mX (mJ l T.1 (eJ l) T.2 kp).1 us ws)++[[Vt (kX kp),.slice An ((lX T.1 (eJ l) kp).length) cn,Vi 0,Vi 0,Vi 0,Ve,Ve,Vz]]),.row (Vs bF (iJ l) cf) 49 9 (xK T.1 vs),.box bq [Vi ((aJ l 0).k),Vi ((aJ l 0).a),Vi ((aJ l 0).b),.string ((aJ l 0).t)],.box bf [Vs bF (iJ l) cf,sL v125],.box bg [.slice A l.length cap,Vi ((bJ l (mJ l T.1 (eJ l) T.2 kp).2:Nat):Int)],.box br [Vz,Vz]] [((uJ u22),0 + 0 * 1,[Vt (fname 0)])] ?_;exact iV (kp + 1) (λX q=>⟨W59,sL v125,us++[.slice An (lX T.1 (eJ l) kp).length cn],ws++[Vz],q _ _ _ _ (mY (by rw [e1,pgRows_snoc hul' hwl',e2]; try rfl)),(S33.trans (S35.trans (S38.trans (S40.trans (S48.trans (S58.trans S60)))))),by omega,by rw [e1,Mk]; exact AllStr.snoc (fnm.sees (S58.trans S60)) (hus.sees (S35.trans (S38.trans (S40.trans (S48.trans (S58.trans S60)))))),by rw [e1,Mk]; exact AllArgs.snoc (sJ _ _ rfl) (hws.sees (S35.trans (S38.trans (S40.trans (S48.trans (S58.trans S60)))))),slu_snoc hul rfl,slu_snoc hwl rfl⟩)
  ·skip;subst hpe
   have prl:(mX (mJ l T.1 (eJ l) T.2 (eJ l)).1 us ws).length=eJ l:=by rw [nX (by rw [hus.len,Ij]) (by rw [hws.len,Ij]),pgT_len]
   refine uQ 0 (v:=pv) (e:=105) (kk:=8) (l:=mX (mJ l T.1 (eJ l) T.2 (eJ l)).1 us ws) ?_; intro Ap cp hE_pv hc_pv hm_pv;rw [show (mX (mJ l T.1 (eJ l) T.2 (eJ l)).1 us ws).length=(eJ l) from by first | omega | (simp; done) | (simp; omega)] at hE_pv hc_pv;rw [hE_pv];refine tQ (t:=decide (((eJ l:Nat):Int) < ((eJ l:Nat):Int))) (Kj (by omega)) ?_;refine go0 2 [] [] ?_;refine xQ ?_;refine go0 11 [.b 2 0,.cl 37 #[Vi ((aJ l 0).k),Vi 2] (Vi (cJ (aJ l 0).k 2))] [] ?_ (ho:=(Aj (λH sH=>yJ _ 2 _ k0 k1 (by omega) (by omega)) (trivial)))
   by_cases q0:cJ (aJ l 0).k 2=0
   ·refine jV (t:=(cJ (aJ l 0).k 2) == 0) (Xj.2 q0) ?_;refine go0 3 [.b 3 0] [] ?_;refine g_callset 1 (g:=bF) (m:=(iJ l)) (cap:=cf) (kk:=9) (e:=49) (l:=xK T.1 vs) (l':=(xK T.1 vs).reverse) (rev_set _ _ _ _ _ (fdRows_one T.1 vs hvl) (by omega)) ?_;refine go0 9 [.b 3 0,.b 5 0] [] ?_;have rF:=fdRows_rev _ _ hvs.len;refine wQ [(2,Vp br)] [.row (.slice Ap (eJ l) cp) 105 8 (mX (mJ l T.1 (eJ l) T.2 (eJ l)).1 us ws),.row (Vs bF (iJ l) cf) 49 9 ((xK T.1 vs).reverse),.box bq [Vi ((aJ l 0).k),Vi ((aJ l 0).a),Vi ((aJ l 0).b),.string ((aJ l 0).t)],.box bf [Vs bF (iJ l) cf,.slice Ap (eJ l) cp],.box bg [.slice A l.length cap,Vi (((mJ l T.1 (eJ l) T.2 (eJ l)).2:Nat):Int)],.box br [Vs bF (iJ l) cf,.slice Ap (eJ l) cp]] [((uJ u22),0 + 0 * 1,[Vt (fname 0)])] ?_;refine hQ.toJ [.agg #[Vs bF (iJ l) cf,.slice Ap (eJ l) cp]] [] (λa w hJ=>?_) (ix:=[5]);have oF:=hJ.rowOwn (v:=Vs bF (iJ l) cf) (e:=49) (kk:=9) (l:=(xK T.1 vs).reverse) 1 (by kernel_rfl);have oP:=own_apart hJ.j 0 1 rfl rfl rfl rfl;rw [rF] at oF;exact ⟨_,_,oF,.slice Ap (eJ l) cp,vs.reverse,rfl,by rw [hfm,Cj q0],by rw [hfm,Cj q0]; exact AllSrc.rev (hvs.sees (S33.trans (own_sees hJ.j 1 rfl))),by rw [hfm]; exact ⟨us,ws,oP,(hus.sees (own_sees hJ.j 1 rfl)),(hws.sees (own_sees hJ.j 1 rfl))⟩⟩
   ·skip;refine tQ (t:=(cJ (aJ l 0).k 2) == 0) (Lj.2 q0) ?_
    refine go0 9 [.b 3 0,.b 5 0] [] ?_;refine wQ [(2,Vp br)] [.row (.slice Ap (eJ l) cp) 105 8 (mX (mJ l T.1 (eJ l) T.2 (eJ l)).1 us ws),.row (Vs bF (iJ l) cf) 49 9 (xK T.1 vs),.box bq [Vi ((aJ l 0).k),Vi ((aJ l 0).a),Vi ((aJ l 0).b),.string ((aJ l 0).t)],.box bf [Vs bF (iJ l) cf,.slice Ap (eJ l) cp],.box bg [.slice A l.length cap,Vi (((mJ l T.1 (eJ l) T.2 (eJ l)).2:Nat):Int)],.box br [Vs bF (iJ l) cf,.slice Ap (eJ l) cp]] [((uJ u22),0 + 0 * 1,[Vt (fname 0)])] ?_;refine hQ.toJ [.agg #[Vs bF (iJ l) cf,.slice Ap (eJ l) cp]] [] (λa w hJ=>?_) (ix:=[5]);have oF:=hJ.rowOwn (v:=Vs bF (iJ l) cf) (e:=49) (kk:=9) (l:=xK T.1 vs) 1 (by kernel_rfl);have oP:=own_apart hJ.j 0 1 rfl rfl rfl rfl;exact ⟨_,_,oF,.slice Ap (eJ l) cp,vs,rfl,by rw [hfm,Bj q0],by rw [hfm,Bj q0]; exact (hvs.sees (S33.trans (own_sees hJ.j 1 rfl))),by rw [hfm]; exact ⟨us,ws,oP,(hus.sees (own_sees hJ.j 1 rfl)),(hws.sees (own_sees hJ.j 1 rfl))⟩⟩
theorem form_any (l:List RawD) (sl:Value) (h:Vw) (hr:RS h 4 sl (l.map RawD.cs)) (hlen:l.length * 40 <= reachBytes) (hok:∀ r∈l,r.ok) :
  C0 Tryz.prog 10 #[sl] h (λv h'=>∃ u1 u2,v=.agg #[sL u1,sL u2] /\ IsForm h' (sL u1) (sL u2) (gQ l)):=by
 intro q1 q2 q3 q4;refine (form_o l sl h hr hlen hok q1 q2 q3 q4).mono ?_;rintro e w' ⟨v,Bo,rfl,hl,hB,hm,u,fl,ho,u2,vs,rfl,rfl,h2,h3⟩;have s:Sees ⟨w',u.ownBlock.toList++h.bad⟩ ⟨w',h.bad⟩:=⟨Hj _,λ_ _ _=>rfl,λb hb _=>Vj _ hb⟩;have r1:RS ⟨w',h.bad⟩ 9 u (xK (gQ l).fields vs):=row_rs ho λb hb hbad=>by have:=(ho.1.lt b hb).1; have:=q4 b hbad; omega
 have k3:=h3.sees s;have k2:=h2.sees s;obtain ⟨A,c,rfl,-⟩:=r1.form;obtain ⟨us,ws,r2,-⟩:=id k3;obtain ⟨A',c',rfl,-⟩:=r2.form;exact ⟨_,Bo,rfl,hl,hB,hm,.slice A _ c,.slice A' _ c',rfl,⟨vs,r1,k2⟩,k3⟩
theorem fname_inj {i j:Nat} (hi:i < 10) (hj:j < 10) (h:fname i=fname j):i=j:=by
 have key:∀ i,i < 10 -> ∀ j,j < 10 -> (fname i).data=(fname j).data -> i=j:=by decide
 exact key i hi j hj (Dj ByteArray.data h)
theorem fldT_names (l:List RawD):∀ k,(fJ l k).1.map (λf:Fd=>f.name)=(List.range k).map fname
 | 0=>rfl
 | k + 1=>by
  show ((fJ l k).1++[_]).map (λf:Fd=>f.name)=_;rw [Mk,fldT_names l k,List.range_succ,Mk]; rfl
theorem form_mem {l:List RawD} {f:Fd}:f∈(gQ l).fields↔f∈(fJ l (iJ l)).1:=by
 show f∈formF l↔_;unfold formF
 split
 ·rw [List.mem_reverse]
 ·exact Iff.rfl
theorem form_nodup (l:List RawD):((gQ l).fields.map (·.name)).Nodup:=by
 have hn:=(lW l).2.1;have h:((fJ l (iJ l)).1.map (·.name)).Nodup:=by
  rw [fldT_names];refine Ew.2 (Dx.imp_of_mem ?_);intro a b ha hb hab e;exact hab (fname_inj (by have:=Jk.1 ha; omega) (by have:=Jk.1 hb; omega) e)
 show ((formF l).map (·.name)).Nodup;unfold formF
 split
 ·rw [List.map_reverse]; exact (List.reverse_perm _).nodup_iff.2 h
 ·exact h
theorem form_len (l:List RawD):(gQ l).fields.length=iJ l:=by
 show (formF l).length=_;unfold formF
 split
 ·rw [List.length_reverse,fQ]
 ·exact fQ l _
theorem form_pages (l:List RawD):(gQ l).pages.length=eJ l:=pgT_len _ _ _ _ _
theorem fldT_each (l:List RawD):∀ k,∀ f∈(fJ l k).1,∃ i,i < k /\ f.name=fname i /\ (1 <= f.kind /\ f.kind <= 3) /\ (1 <= f.ty /\ f.ty <= 3) /\ (f.kind=1 -> f.src=zE)
 | 0,f,hf=>by cases hf
 | k + 1,f,hf=>by
  have hf:f∈(fJ l k).1++[_]:=hf;rcases Qj.1 hf with hf | hf
  ·obtain ⟨i,h1,h2⟩:=fldT_each l k f hf;exact ⟨i,by omega,h2⟩
  ·obtain rfl:=Pj.1 hf;have p1:=tX (aJ l (fJ l k).2).k 3 (by omega);have p2:=tX (aJ l (fJ l k).2).b 3 (by omega);refine ⟨k,by omega,rfl,⟨by simp only; omega,by simp only; omega⟩,⟨by simp only; omega,by simp only; omega⟩,λh=>?_⟩;have h:1 + cJ (aJ l (fJ l k).2).k 3=1:=h;show (srcE l (fJ l k).1 (aJ l (fJ l k).2) (bJ l (fJ l k).2)).1=zE;unfold srcE;rw [Bj (by omega),Bj (by omega)]
theorem form_c (l:List RawD) (sl:Value) (h:Vw) (hr:RS h 4 sl (l.map RawD.cs)) (hlen:l.length * 40 <= reachBytes) (hok:∀ r∈l,r.ok) :
  C0 Tryz.prog 10 #[sl] h (λv h'=>∃ A c B d,v=.agg #[.slice A (gQ l).fields.length c,.slice B (gQ l).pages.length d] /\ IsForm h' (.slice A (gQ l).fields.length c) (.slice B (gQ l).pages.length d) (gQ l)):=by
 refine (form_any l sl h hr hlen hok).mono λv h' _=>?_;rintro ⟨u1,u2,rfl,hf⟩;obtain ⟨vs,hrs,hsrc⟩:=hf.fields;obtain ⟨us,ws,hps,hst,hag⟩:=hf.pages;obtain ⟨A,c,e1,-⟩:=hrs.form;obtain ⟨B,d,e2,-⟩:=hps.form;rw [zK hsrc.len] at e1;rw [nX (by rw [hst.len,Ij]) (by rw [hag.len,Ij])] at e2;rw [e1,e2] at hf ⊢;exact ⟨A,c,B,d,rfl,hf⟩
theorem fname_ok {k:Nat} (h:k < 10):qJ (fname k).data.toList:=by
 match k,h with
 | 0,_=>exact ⟨by decide,by decide,⟨_,rfl,by decide⟩,by decide,by decide⟩
 | 1,_=>exact ⟨by decide,by decide,⟨_,rfl,by decide⟩,by decide,by decide⟩
 | 2,_=>exact ⟨by decide,by decide,⟨_,rfl,by decide⟩,by decide,by decide⟩
 | 3,_=>exact ⟨by decide,by decide,⟨_,rfl,by decide⟩,by decide,by decide⟩
 | 4,_=>exact ⟨by decide,by decide,⟨_,rfl,by decide⟩,by decide,by decide⟩
 | 5,_=>exact ⟨by decide,by decide,⟨_,rfl,by decide⟩,by decide,by decide⟩
 | 6,_=>exact ⟨by decide,by decide,⟨_,rfl,by decide⟩,by decide,by decide⟩
 | 7,_=>exact ⟨by decide,by decide,⟨_,rfl,by decide⟩,by decide,by decide⟩
 | 8,_=>exact ⟨by decide,by decide,⟨_,rfl,by decide⟩,by decide,by decide⟩
 | 9,_=>exact ⟨by decide,by decide,⟨_,rfl,by decide⟩,by decide,by decide⟩
theorem tyF_mem:∀ {fs:List Fd},(fs.map (λf:Fd=>f.name)).Nodup -> ∀ f∈fs,tyF fs f.name=some f.ty
 | [],_,f,hf=>by cases hf
 | g :: fs,hd,f,hf=>by
  have hd':=Mq.1 hd;unfold tyF;rcases Tj.1 hf with rfl | hf
  ·rw [Cj ((Xk _ _).2 rfl)]
  ·rw [Bj (λq=>?_)]
   ·exact tyF_mem hd'.2 f hf
   ·have e:=(Xk _ _).1 q;exact hd'.1 (Rj.2 ⟨f,hf,e⟩)
theorem fldT_made (l:List RawD):∀ k,∀ f∈(fJ l k).1,∃ i,i < k /\ f=⟨fname i,1 + cJ (aJ l (fJ l i).2).k 3,1 + cJ (aJ l (fJ l i).2).b 3,(srcE l (fJ l i).1 (aJ l (fJ l i).2) (bJ l (fJ l i).2)).1⟩
 | 0,f,hf=>by cases hf
 | k + 1,f,hf=>by
  have hf:f∈(fJ l k).1++[_]:=hf;rcases Qj.1 hf with hf | hf
  ·obtain ⟨i,h1,h2⟩:=fldT_made l k f hf;exact ⟨i,by omega,h2⟩
  ·exact ⟨k,by omega,Pj.1 hf⟩
theorem fldT_sub (l:List RawD) {i k:Nat} (h:i <= k):∀ f∈(fJ l i).1,f∈(fJ l k).1:=by
 induction k with
 | zero=>intro f hf; rw [show i=0 by omega] at hf; cases hf
 | succ k ih =>
  intro f hf
  by_cases e:i=k + 1
  ·rw [e] at hf; exact hf
  ·show f∈(fJ l k).1++[_];exact Ek _ (ih (by omega) f hf)
theorem fldT_names_ok (l:List RawD) {k:Nat} (hk:k <= 10):∀ f∈(fJ l k).1,qJ f.name.data.toList:=λf hf=>by
 obtain ⟨i,h1,rfl⟩:=fldT_made l k f hf;exact fname_ok (by omega)
theorem src_ok (l:List RawD) (i:Nat) (hi:i < 10) {g:ByteArray -> Option Int} (hg:∀ f∈(fJ l i).1,g f.name=some f.ty) (h:cJ (aJ l (fJ l i).2).k 3≠0) :
  ∃ t,1 <= t /\ t <= 3 /\ (cJ (aJ l (fJ l i).2).k 3=1 -> t=1 + cJ (aJ l (fJ l i).2).b 3) /\ tyE g (srcE l (fJ l i).1 (aJ l (fJ l i).2) (bJ l (fJ l i).2)).1=(t,0) /\
   WfE (srcE l (fJ l i).1 (aJ l (fJ l i).2) (bJ l (fJ l i).2)).1 /\ (szE (srcE l (fJ l i).1 (aJ l (fJ l i).2) (bJ l (fJ l i).2)).1).1 <= 13 /\ (szE (srcE l (fJ l i).1 (aJ l (fJ l i).2) (bJ l (fJ l i).2)).1).2 <= 3:=by
 have hn:=fldT_names_ok l (k:=i) (by omega);have pk:=tX (aJ l (fJ l i).2).k 3 (by omega);have pb:=tX (aJ l (fJ l i).2).b 3 (by omega);have pa:=tX (aJ l (fJ l i).2).a 3 (by omega);unfold srcE
 by_cases h1:cJ (aJ l (fJ l i).2).k 3=1
 ·rw [Cj h1];obtain ⟨a,b,c⟩:=genE_ok l (fJ l i).1 hn 2 (1 + cJ (aJ l (fJ l i).2).b 3) (bJ l (fJ l i).2) (by omega) (by omega);exact ⟨1 + cJ (aJ l (fJ l i).2).b 3,by omega,by omega,λ_=>rfl,ty_gen hg l 2 _ _ (by omega) (by omega),a,b,c⟩
 ·rw [Bj h1,Cj (by omega)];obtain ⟨a,b,c⟩:=genE_ok l (fJ l i).1 hn 1 (1 + cJ (aJ l (fJ l i).2).a 3) (bJ l (fJ l i).2) (by omega) (by omega);have e1:cntE 1=4:=rfl;exact ⟨1 + cJ (aJ l (fJ l i).2).a 3,by omega,by omega,λq=>absurd q h1,ty_gen hg l 1 _ _ (by omega) (by omega),a,by omega,by omega⟩
theorem form_okF (l:List RawD) (fs:List Fd) (hd:(fs.map (λf:Fd=>f.name)).Nodup) (hs:∀ f∈(fJ l (iJ l)).1,f∈fs):∀ f∈(fJ l (iJ l)).1,OkF fs f:=λf hf=>by
 have hn:=(lW l).2.1;obtain ⟨i,hi,rfl⟩:=fldT_made l _ f hf;have pk:=tX (aJ l (fJ l i).2).k 3 (by omega);have pb:=tX (aJ l (fJ l i).2).b 3 (by omega);have hg:∀ f∈(fJ l i).1,tyF fs f.name=some f.ty:=λf hf=>tyF_mem hd f (hs f (fldT_sub l (by omega) f hf));have hso:=λh=>src_ok l i (by omega) hg h;refine ⟨fname_ok (by omega),by simp only; omega,by simp only; omega,by simp only; omega,by simp only; omega,λh=>?_,λh=>?_,λh=>?_,λh=>?_⟩
 ·simp only at h ⊢;unfold srcE;rw [Bj (by omega),Bj (by omega)]
 ·simp only at h ⊢;obtain ⟨t,-,-,-,-,a,b,c⟩:=hso (by omega);exact ⟨a,by omega,by unfold chkE; rw [Bj (by omega),Bj (by omega)]⟩
 ·simp only at h ⊢;obtain ⟨t,-,-,e,q,-⟩:=hso (by omega);rw [q,e (by omega)]
 ·simp only at h ⊢;obtain ⟨t,a,b,-,q,-⟩:=hso (by omega);exact ⟨t,a,b,q⟩
theorem form_okFs (l:List RawD) (fs:List Fd) (hd:(fs.map (λf:Fd=>f.name)).Nodup) (hm:∀ f,f∈fs↔f∈(gQ l).fields) (hl:fs.length <= 14):OkFs fs :=
 ⟨λf hf=>form_okF l fs hd (λg hg=>(hm g).2 (form_mem.2 hg)) f (form_mem.1 ((hm f).1 hf)),hd,hl⟩
open Go.RowKit Go.Maps Go.WideElems Go.WideShapes
theorem map_owned {P:Program} {w:World} {b:Nat} {k e:TypeId} {l:List (ByteArray × Value)} (hb:w.heap[b]?=some (iW (xY l))) (hn:(l.map (·.1)).Nodup) (hs:∀ p∈l,p.1.size <= maxLen) (hv:∀ p∈l,p.2=.bool true) (hl:l.length <= maxLen)
  (hk:P.underlying k=some .string) (he:P.underlying e=some .bool):∃ D0:DataW Unit,w.ownsMap P k (plainElem P e) b l.length D0 /\ (strKeys D0).Perm (l.map λp=>p.1.data.toList) /\ Maps.size D0=l.length:=by
 have hes:(ments (xY l)).toArray.toList=ments (xY l):=rfl;have hrd:∀ x∈ments (xY l),∃ p∈l,rd P k (plainElem (H:=Unit) P e) x=some (.string p.1.data.toList,.lit (.bool true)):=λx hx=>by
  obtain ⟨i,hi⟩:=Bq hx;rw [ments_get,xY,Oj] at hi
  cases hp:l[i]? with
  | none=>rw [hp] at hi; cases hi
  | some p =>
   rw [hp] at hi;simp only [Bv,Yj] at hi;subst hi;have hm:=Ej hp;refine ⟨p,hm,?_⟩;have h1:=hs p hm;have h2:=hv p hm;simp [rd,keyOf,mapKey,hk,h1,plainElem,he,h2]
 have hmap:(ments (xY l)).map (rg P k (plainElem (H:=Unit) P e))=l.map λp=>(Lit.string p.1.data.toList,DataW.lit (.bool true)):=by
  refine Vq λi=>?_;rw [Oj,ments_get,xY,Oj,Oj]
  cases hp:l[i]? with
  | none=>rfl
  | some p =>
   have hm:=Ej hp;have h1:=hs p hm;have h2:=hv p hm;simp [rg,rd,keyOf,mapKey,hk,h1,plainElem,he,h2]
 have hlen:(ments (xY l)).length=l.length:=by simp [ments,xY]
 refine ⟨_,⟨(ments (xY l)).toArray,l.length,?_,⟨by simpa [hlen] using hl,?_,λx hx=>?_⟩,by simp [hlen],rfl⟩,?_,?_⟩
 ·rw [hb,iW]; simp [xY]
 ·rw [Go.MapKept.stamped_iff,hes];have hborn:(ments (xY l)).map (·.born)=List.range l.length:=by
   refine Vq λi=>?_;rw [Oj,ments_get,xY,Oj];rcases Iv i l.length with g | g
   ·rw [Gj g,List.getElem?_range g]; rfl
   ·rw [Gv g,Gv (by simpa using g)]; rfl
  have hkeys:(ments (xY l)).map (·.key)=l.map λp=>Value.string p.1:=by
   refine Vq λi=>?_;rw [Oj,ments_get,xY,Oj,Oj]
   cases l[i]? <;> rfl
  refine ⟨λx hx=>?_,by rw [hborn]; exact Dx,?_⟩
  ·have:x.born∈(ments (xY l)).map (·.born):=Rj.2 ⟨x,hx,rfl⟩
   rw [hborn] at this;exact Jk.1 this
  ·have:((ments (xY l)).map (·.key)).Nodup:=by
    rw [hkeys];have h2:(l.map λp=>Value.string p.1)=(l.map (·.1)).map Value.string:=by rw [Jv]; rfl
    rw [h2];exact Ew.2 (hn.imp λhne e=>hne (by injection e))
   exact Ew.1 this
 ·obtain ⟨p,-,h⟩:=hrd x hx; exact ⟨_,h⟩
 ·rw [hes,hmap];show (List.map (λ(p:Lit × DataW Unit)=>strOf p.1) _).Perm _;refine ((sorted_perm _).map _).trans ?_;rw [Jv];exact List.Perm.refl _
 ·rw [hes,hmap];show (List.foldr DataW.insert [] _).length=_;rw [(sorted_perm _).length_eq,Ij]
theorem leaf_refs (r:RawD) (fs:List Fd) (kind:Int) {s:ByteArray} (h:s∈yX (yV r fs kind)):∃ f∈fs,s=f.name:=by
 have hc:∀ s,s ∉ yX (gK kind r):=λs h=>by
  rw [zX,Bj (show ¬ (gK kind r).op=2 by show ¬ (1:Int)=2; decide)] at h;have h:s∈[]++aY []:=h;simp [aY] at h
 unfold yV at h
 split at h
 ·rename_i t ht
  split at h
  ·exact absurd h (hc s)
  ·rw [refs_ref] at h
   have:=Ej ht
   obtain ⟨f,hf,e⟩:=Rj.1 this;exact ⟨f,(Jq.1 hf).1,by rw [Pj.1 h,e]⟩
 ·exact absurd h (hc s)
theorem refs_gen {fs:List Fd} (l:List RawD):∀ (d:Nat) (kind:Int) (n:Nat),∀ s∈yX (gJ l fs d kind n).1,∃ f∈fs,s=f.name
 | 0,kind,n,s,h=>leaf_refs _ _ _ h
 | d + 1,kind,n,s,h=>by
  by_cases g:cJ (aJ l n).k 3=0
  ·rw [genE_leaf g] at h; exact leaf_refs _ _ _ h
  ·obtain ⟨op,ks,hp⟩:∃ op ks,pX (aJ l n) kind=(op,ks):=⟨(pX (aJ l n) kind).1,(pX (aJ l n) kind).2,by cases pX (aJ l n) kind; rfl⟩;rw [kV g hp] at h;have h:s∈yX (opE op (dJ (gJ l fs d) ks (bJ l n)).1):=h;have hop:op≠2:=by
    have:(pX (aJ l n) kind).1≠2:=by
     have b0:=sX (aJ l n).b 7 (by omega);have b1:=rX (aJ l n).b 7 (by omega);unfold pX intOps
     repeat' split
     all_goals (simp only; omega)
    rw [hp] at this; exact this
   rw [refs_op op _ hop] at h;obtain ⟨x,hx,hs⟩:=mem_refsL.1 h;obtain ⟨-,m2⟩:=manyE_all (one:=gJ l fs d) (p:=λx=>∀ s∈yX x,∃ f∈fs,s=f.name) ks (bJ l n) (λk _ n=>refs_gen l d k n);exact m2 x hx s hs
def factsV (fs:List Fd):Env -> Env -> Int
 | _,[]=>0
 | pre,p :: rest=>if fZ fs p.1 p.2.k=0 then (if pre.any (λq=>q.1.toList == p.1.toList) then 6 else factsV fs (pre++[p]) rest) else fZ fs p.1 p.2.k
theorem facts1_any (p:ByteArray × Vl) (b:Nat) (x:ByteArray × Vl) (h:Vw) (hc:Cells h b 0 (fcRow x)):C0 Tryz.prog 154 #[.agg #[Vt p.1,Vi 0,Vi 0,.string ⟨#[]⟩,Vi p.2.k,Vi p.2.n,.string p.2.s],.pointer (some ⟨b,0,none⟩)] h (λr _=>r=.bool (p.1.toList == x.1.toList)):=by
 refine pQ Tryz.func154 λhbx hbad Q hQ=>?_;refine qQ (hc.sees (Sees.refl _)) ?_;refine go1 17 [.own,.b 0 0,.f 0 0] [] ?_;intro b1;refine hQ.to [.bool (p.1.toList == x.1.toList)] (λH sH=>?_);exact rfl
theorem idxFc_any (l:Env) (A:Option Addr) (cap:Nat) (b:Nat) (x:ByteArray × Vl) (h:Vw) (hr:RS h 7 (.slice A l.length cap) (wK l)) (hl:l.length <= 1000000) (hc:Cells h b 0 (fcRow x)) :
  C0 Tryz.prog 50 #[.slice A l.length cap,.func (.func 154) #[] #[.pointer (some ⟨b,0,none⟩)]] h (λr _=>r=Vi (fidx (λq:ByteArray × Vl=>q.1.toList == x.1.toList) l)):=by
 generalize hL:l.length=len at *;refine pQ Tryz.func50 λhbx hbad Q hQ=>?_;refine go0 14 [] [] ?_;refine yQ [0,1,0,1] [.block 0,.seq [1,1]] (λ(k:Nat) X=>∃ (W1:Vw) ,X W1 [(0,.slice A len cap),(1,.func (.func 154) #[] #[Vp b]),(7,Vi (len:Int)),(8,Vi (k:Int))] [] [] /\ Sees h W1 /\ (k <= len) /\ (∀ y∈l.take k,(y.1.toList == x.1.toList)=false)) (λk=>len - k) (0) (λX q=>⟨h,q _ _ _ _ ⟨rfl,by kernel_rfl⟩,Sees.refl _,Mj _,λy hy=>by simp at hy⟩) ?_;rintro k a w ⟨W1,hJ,S2,hk,hn⟩; refine dV hJ ?_; clear hJ a w;refine go0 6 [] [] ?_;rcases (by omega:k < len\/k=len) with hlt | hke
 ·obtain ⟨f,hfk⟩:∃ f,l[k]?=some f:=⟨_,Gj (by omega)⟩;have hrow:(wK l)[k]?=some (fcRow f):=by rw [Oj,hfk]; rfl
  refine jV (t:=decide ((k:Int) < (len:Int))) (Jj (by omega)) ?_;refine go0 15 [] [] ?_;obtain ⟨b3,o4,rfl,-,c5⟩:=RS.row hr (hrow);refine qQ (c5.sees S2) ?_;refine go0 5 [.ix b3 o4 len cap k,.f 0 0,.cl 154 #[.agg #[Vt f.1,Vi 0,Vi 0,Ve,Vi f.2.k,Vi f.2.n,.string f.2.s],Vp b] (.bool (f.1.toList == x.1.toList))] [] ?_ (ho:=(Aj (by first | omega | (simp; omega)) (Aj (λH sH=>facts1_any f b x _ (hc.sees (S2.trans sH))) (trivial))))
  cases boolIs (f.1.toList == x.1.toList) with
  | true hq =>
   refine jV (t:=f.1.toList == x.1.toList) (hq) ?_;refine go0 9 [] [] ?_;refine xQ ?_;refine go0 2 [] [] ?_;refine hQ.to [Vi (k:Int)] (λH sH=>?_);exact Dj (Value.int .i64) (fidx_found _ l k f hn hfk hq).symm
  | false hq =>
   refine tQ (t:=f.1.toList == x.1.toList) (hq) ?_;refine go0 7 [] [(18,Vi (IntKind.i64.wrap ((k:Int) + 1)),Vi ((k:Int) + 1))] ?_ (hc:=(Aj (jJ (by omega) (by omega)) (trivial)));exact iV (k + 1) (λX q=>⟨W1,q _ _ _ _ ⟨rfl,by kernel_rfl⟩,S2,by omega,(by rw [cZ l k f hfk]; exact λy hy=>(Qj.1 hy).elim (hn y) (λe=>by rw [Pj.1 e]; exact hq))⟩)
 ·skip;have htk:l.take k=l:=by rw [hke, <- hL,Pk]
  rw [htk] at hn;refine tQ (t:=decide ((k:Int) < (len:Int))) (Kj (by omega)) ?_;refine go0 2 [] [] ?_;refine xQ ?_;refine go0 8 [] [] ?_;refine hQ.to [Vi (-1)] (λH sH=>?_);exact Dj (Value.int .i64) (fidx_none _ l hn).symm
theorem contFc_any (l:Env) (A:Option Addr) (cap:Nat) (b:Nat) (x:ByteArray × Vl) (h:Vw) (hr:RS h 7 (.slice A l.length cap) (wK l)) (hl:l.length <= 1000000) (hc:Cells h b 0 (fcRow x)) :
  C0 Tryz.prog 61 #[.slice A l.length cap,.func (.func 154) #[] #[.pointer (some ⟨b,0,none⟩)]] h (λr _=>r=.bool (l.any (λq=>q.1.toList == x.1.toList))):=by
 have hi:=λH q1 q2=>idxFc_any l A cap b x H q1 hl q2;have e:=fidx_dec (λq:ByteArray × Vl=>q.1.toList == x.1.toList) l;generalize fidx (λq:ByteArray × Vl=>q.1.toList == x.1.toList) l=p at *;refine pQ Tryz.func61 λhbx hbad Q hQ=>?_;refine go0 15 [.cl 50 #[.slice A l.length cap,.func (.func 154) #[] #[Vp b]] (Vi p)] [] ?_ (ho:=(Aj (λH sH=>hi _ (hr.sees sH) (hc.sees sH)) (trivial)));refine hQ.to [.bool (decide (p ≥ 0))] (λH sH=>?_);exact Dj Value.bool e
theorem facts_v (fs:List Fd) (fv pv:Value) (l:Env) (sl:Value) (h:Vw) (hf:IsFds h fv fs) (hpv:sL pv=pv) (hfl:fs.length <= 1000000) (hl:RS h 7 sl (wK l)) (hll:l.length <= 1000000) (hk:∀ p∈l,p.2.known) :
  C0 Tryz.prog 98 #[.agg #[fv,pv],sl] h (λr _=>r=Vi (factsV fs [] l)):=by
 obtain ⟨vs,A,c,rfl,-,-,hr,-,hvl,hsl⟩:=bQ hf;obtain ⟨A0,c0,rfl,hc1,-,-⟩:=hl.form;rw [Ij] at *;rw [<- hpv];have hT:=λH s k n t q1 q2=>told_any fs (.slice A fs.length c) s k n t H q1 hfl q2;generalize hL:l.length=len at *;refine pQ Tryz.func98 λhbx hbad Q hQ=>?_;refine go1 15 [.own] [] ?_;intro b1;refine yQ [0,1,0,1] [.block 0,.seq [1,1]] (λ(k:Nat) X=>∃ (W2:Vw) ,X W2 [(1,.slice A0 len c0),(2,Vp b1),(8,.slice A0 len c0),(9,Vi (len:Int)),(10,Vi (k:Int))] [.box b1 [.slice A fs.length c,sL pv]] [] /\ Sees h W2 /\ (k <= len) /\ (factsV fs (l.take k) (l.drop k)=factsV fs [] l)) (λk=>len - k) (0) (λX q=>⟨h,q _ _ _ _ ⟨rfl,by kernel_rfl⟩,Sees.refl _,Mj _,rfl⟩) ?_;rintro k a w ⟨W2,hJ,S3,hkl,hv⟩; refine dV hJ ?_; clear hJ a w;refine go0 6 [] [] ?_;rcases (by omega:k < len\/k=len) with hlt | hke
 ·obtain ⟨x,hxk⟩:∃ x,l[k]?=some x:=⟨_,Gj (by omega)⟩;have hrow:(wK l)[k]?=some (fcRow x):=by rw [Oj,hxk]; rfl
  have hxn:=hk x (Ej hxk);have hdr:l.drop k=x :: l.drop (k + 1):=by
   obtain ⟨h1,h2⟩:=Nj.1 hxk;rw [Tv h1,h2]
  have htk:=cZ l k x hxk;rw [hdr] at hv;have hv1:factsV fs (l.take k) (x :: l.drop (k + 1))=if fZ fs x.1 x.2.k=0 then (if (l.take k).any (λq=>q.1.toList == x.1.toList) then 6 else factsV fs (l.take k++[x]) (l.drop (k + 1))) else fZ fs x.1 x.2.k:=rfl;rw [hv1] at hv;have htl:(l.take k).length=k:=by rw [Ck]; omega
  have htr:RS h 7 (.slice A0 k c0) (wK (l.take k)):=by have:=hl.take k (by rw [Ij]; omega); rwa [<- List.map_take] at this
  have hC:=λH b q1 q2=>contFc_any (l.take k) A0 c0 b x H q1 (by omega) q2;rw [htl] at hC;have hTx:=λH q=>hT H x.1 x.2.k x.2.n x.2.s q hxn;generalize fZ fs x.1 x.2.k=z at *;generalize hany:(l.take k).any (λq=>q.1.toList == x.1.toList)=y at *;refine jV (t:=decide ((k:Int) < (len:Int))) (Jj (by omega)) ?_;refine go0 7 [] [] ?_;obtain ⟨b4,o5,rfl,-,c6⟩:=RS.row hl (hrow);refine qQ (c6.sees S3) ?_;refine go1 26 [.ix b4 o5 len c0 k,.f 0 0,.own,.b 0 0,.b 1 0,.b 0 0,.b 0 4,.cl 48 #[.slice A fs.length c,.string x.1,.agg #[Vi x.2.k,Vi x.2.n,.string x.2.s]] (Vi z)] [] ?_ (ho:=(Aj (by first | omega | (simp; omega)) (Aj (λH sH=>hTx _ (hf.sees (S3.trans sH))) (trivial))));intro bx
  by_cases h1:z=0
  ·rw [Cj h1] at hv;refine tQ (t:=z != 0) ((by rw [Rk]; exact h1)) ?_;refine go0 18 [.b 0 1] [] ?_;refine eV (.slice (some ⟨b4,o5,none⟩) k c0) (λw=>run_hi (t:=32) (e:=122) (x:=(.tmp 29)) (y:=(.tmp 30)) (A:=(some ⟨b4,o5,none⟩)) (n:=len) (cap:=c0) (k:=k) (kk:=7) (by kernel_rfl) (by kernel_rfl) (by kernel_rfl) (by omega) Tryz.underlying32 (by kernel_rfl)) ?_;refine go0 1 [] [] ?_;refine g_callq (λa w hJ=>hC _ bx (htr.sees (S3.trans hJ.j.seesQ)) (hJ.j.boxQ (b:=bx) (cs:=[Vt x.1,Vi 0,Vi 0,Ve,Vi x.2.k,Vi x.2.n,.string x.2.s]) 0 (by kernel_rfl))) ?_; intro W7 S8;refine go0 2 [] [] ?_;rcases Px y with hy | hy
   ·rw [Cj hy] at hv;refine jV (t:=y) (hy) ?_;refine go0 8 [] [] ?_;refine xQ ?_;refine go0 2 [] [] ?_;refine hQ.to [Vi 6] (λH sH=>?_);exact Dj (Value.int .i64) hv
   ·skip;rw [Bj (by rw [hy]; exact Cx)] at hv
    refine tQ (t:=y) (hy) ?_;refine go0 7 [] [(34,Vi (IntKind.i64.wrap ((k:Int) + 1)),Vi ((k:Int) + 1))] ?_ (hc:=(Aj (jJ (by omega) (by omega)) (trivial)));exact iV (k + 1) (λX q=>⟨W7,q _ _ _ _ ⟨rfl,by kernel_rfl⟩,(S3.trans S8),by omega,(by rw [htk]; exact hv)⟩)
  ·skip;rw [Bj h1] at hv
   refine jV (t:=z != 0) (Hk.2 h1) ?_;refine go0 10 [] [] ?_;refine xQ ?_;refine go0 2 [] [] ?_;refine hQ.to [Vi z] (λH sH=>?_);exact Dj (Value.int .i64) hv
 ·skip;have hd:l.drop k=[]:=Vv (by omega)
  rw [hd] at hv;have hv:(0:Int)=factsV fs [] l:=hv;refine tQ (t:=decide ((k:Int) < (len:Int))) (Kj (by omega)) ?_;refine go0 2 [] [] ?_;refine xQ ?_;refine go0 8 [] [] ?_;refine hQ.to [Vi 0] (λH sH=>?_);exact Dj (Value.int .i64) hv
theorem copy_rec:∀ (m:Nat) (x:Ex) (v:Value) (h:Vw),(szE x).1 <= m -> IsArgs h x v -> (szE x).1 < 1000000 ->
  C0 Tryz.prog 150 #[.agg #[Vi x.op,Vi x.k,Vi x.n,.string x.s,.string x.nm,v]] h (λr h'=>∃ u,r=.agg #[Vi x.op,Vi x.k,Vi x.n,.string x.s,.string x.nm,sL u] /\ IsArgs h' x (sL u))
 | 0,x,v,h,hm,_,_=>by have:=szE_pos x; omega
 | m + 1,x,v,h,hm,hx,hb=>by
  have IH:=copy_rec m;have hse:=zY x;obtain ⟨ws,hr,hws⟩:=hx.form;obtain ⟨A,ca,rfl,hc1,hc2,-⟩:=hr.form;have hwl:=hws.len;have hrl:=sK hwl;have hlen:=szL_len x.args;rw [hrl] at hc1 hr ⊢;rw [hse] at hm hb;simp only at hm hb;generalize hL:x.args.length=len at *;refine pQ Tryz.func150 λhbx hbad Q hQ=>?_;refine cV 47 6 ?_;refine gov3 29 [.fix,.own,.f 0 0,.own,.b 0 0,.b 0 5,.f 0 5] [] ?_;intro b1 b2 b3 W4 S5;refine yQ [0,1,0,1,1,1] [.block 0,.seq [1,1,1,1]] (λ(k:Nat) X=>∃ (W6:Vw) (v:Value) (vs:List Value),X W6 [(2,Vp b2),(3,Vp b3),(9,.slice A len ca),(10,Vi (len:Int)),(11,Vi (k:Int))] [.box b3 [Vi x.op,Vi x.k,Vi x.n,.string x.s,.string x.nm,v],.box b2 [Vi 0,Vi 0,Vi 0,Ve,Ve,Vz],.row v 47 6 (rK (x.args.take k) vs)] [(b1,0,[Vi x.op,Vi x.k,Vi x.n,.string x.s,.string x.nm,.slice A len ca])] /\ Sees W4 W6 /\ (k <= len) /\ (AllArgs W6 (x.args.take k) vs)) (λk=>len - k) (0) (λX q=>⟨W4,(Vz),[],q _ _ _ _ ⟨rfl,by kernel_rfl⟩,Sees.refl _,Mj _,by unfold AllArgs; rfl⟩) ?_;rintro k a w ⟨W6,v,vs,hJ,S7,hk,hvs⟩; refine dV hJ ?_; clear hJ a w;refine go0 6 [] [] ?_;rcases (by omega:k < len\/len=k) with hlt | hke
  ·obtain ⟨y,hy⟩:∃ y,x.args[k]?=some y:=⟨_,Gj (by omega)⟩;obtain ⟨u,hu⟩:∃ u,ws[k]?=some u:=⟨_,Gj (by omega)⟩;have hyu:=AllArgs.get hws hy hu;obtain ⟨Au,nu,cu,rfl⟩:=hyu.slice;have hym:=szL_mem (Ej hy);have hrow:(rK x.args ws)[k]?=some (exRow y (.slice Au nu cu)):=by show (List.zipWith exRow _ _)[k]?=_; rw [Dw,hy,hu]
   have hsn:=cZ _ k y hy;have hvl:=hvs.len;have hrl2:=sK hvl;have htl:(x.args.take k).length=k:=by rw [Ck]; omega
   refine jV (t:=decide ((k:Int) < (len:Int))) (Jj (by omega)) ?_;refine go0 6 [] [] ?_;obtain ⟨b8,o9,rfl,-,c10⟩:=RS.row hr (hrow);refine qQ (c10.sees (S5.trans S7)) ?_;refine go1 6 [.ix b8 o9 len ca k,.f 0 0,.own,.b 0 0] [] ?_ (ho:=(Aj (by first | omega | (simp; omega)) (trivial)));intro b11;refine fV 8 0 [.pu,.ld 1 5,.ld 0 0,.f (λgh=>.agg #[Vi y.op,Vi y.k,Vi y.n,.string y.s,.string y.nm,sL (gh 3)]) (λgh hh=>IsArgs hh y (sL (gh 3))),.f (λgh=>.slice (some ⟨(uJ (gh 4)),0,none⟩) 1 1) (λgh hh=>Cells hh (uJ (gh 4)) 0 [Vi y.op,Vi y.k,Vi y.n,.string y.s,.string y.nm,sL (gh 3)]),.e (λgh=>sL (gh 5)) 3 (λgh=>.row (sL (gh 5)) 47 6 ((rK (x.args.take k) vs)++[[Vi y.op,Vi y.k,Vi y.n,.string y.s,.string y.nm,sL (gh 3)]])),.pu,.st 1 5] [(3,false),(4,true),(5,false)] (Aj (λ_ _ _ s c=>c.sees s) (Aj (λ_ _ _ s c=>c.sees s) (trivial))) ?_ ?_
   ·intro R hT hA hmono;refine Aj (vX hT hA hmono 18 (λu=>.agg #[Vi y.op,Vi y.k,Vi y.n,.string y.s,.string y.nm,sL u]) [2] 3 150 (λgh=>#[.agg #[Vi y.op,Vi y.k,Vi y.n,.string y.s,.string y.nm,.slice Au nu cu]]) (λgh H sH fH lent=>C0.facts (R:=R) (x:=gh) (i:=3) (n:=0) (F:=(λu=>.agg #[Vi y.op,Vi y.k,Vi y.n,.string y.s,.string y.nm,sL u])) (G:=λu hh=>IsArgs hh y (sL u)) (f:=λgh hh=>IsArgs hh y (sL (gh 3))) (IH y _ _ (by omega) (hyu.sees (S5.trans (S7.trans sH))) (by omega)) (by kernel_rfl) (by kernel_rfl) (λ_ _ r=>r))) ?_;refine Aj (r_fact hT hA hmono ⟨λ_ _=>by kernel_rfl,λ_ _=>by kernel_rfl,λ_ _=>by kernel_rfl⟩ 19 (λg=>Vs g 1 1) [3] 4 (by kernel_rfl) (by kernel_rfl) (λ_=>by kernel_rfl) (λgh=>[Vi y.op,Vi y.k,Vi y.n,.string y.s,.string y.nm,sL (gh 3)]) 47 (λ_ _=>by kernel_rfl) (λgh zb zH zc zj zq zhq zhe=>own_fact (i:=4) (k:=1) (f:=λgh hh=>Cells hh (uJ (gh 4)) 0 [Vi y.op,Vi y.k,Vi y.n,.string y.s,.string y.nm,sL (gh 3)]) (by kernel_rfl) (by kernel_rfl) zc zj zq zhq zhe)) ?_;refine Aj (r_append hT hA hmono ⟨λ_ _=>by kernel_rfl,λ_ _=>by kernel_rfl,λ_ _=>by kernel_rfl⟩ (by kernel_rfl) 20 [1,3,4] 5 (by kernel_rfl) (λ_=>by kernel_rfl) 3 (GN R 3) (by kernel_rfl) (by kernel_rfl) (by kernel_rfl) (λgh=>v) 45 47 6 (λgh=>rK (x.args.take k) vs) (λgh=>[[Vi y.op,Vi y.k,Vi y.n,.string y.s,.string y.nm,sL (gh 3)]]) (λ_=>by kernel_rfl) (λ_=>by kernel_rfl) (λ_ _=>by kernel_rfl) (.tmp 16) (.tmp 19) (by kernel_rfl) (by kernel_rfl) (λgh=>(uJ (gh 4))) 1 1 (λ_=>by kernel_rfl) (λ_=>by kernel_rfl) 1 4 (λgh hh=>Cells hh (uJ (gh 4)) 0 [Vi y.op,Vi y.k,Vi y.n,.string y.s,.string y.nm,sL (gh 3)]) (by kernel_rfl) (by kernel_rfl) (λ_ _ c=>c) Tryz.underlying45 (zv:=.agg #[Vi 0,Vi 0,Vi 0,Ve,Ve,Vz]) (bytes:=80) (by kernel_rfl) (by kernel_rfl) (λ_=>by kernel_rfl) (λ_=>by constructor <;> (rw [hrl2,htl]; omega))) ?_
    trivial
   rintro u18 b13 v20 W14 S15 ⟨f18,f12,-⟩;replace f18:IsArgs W14 y (sL u18):=f18;replace f12:Cells W14 b13 0 [Vi y.op,Vi y.k,Vi y.n,.string y.s,.string y.nm,sL u18]:=f12;refine qQ f12 ?_;refine go0 6 [] [(22,Vi (IntKind.i64.wrap ((k:Int) + 1)),Vi ((k:Int) + 1))] ?_ (hc:=(Aj (jJ (by omega) (by omega)) (trivial)));refine wQ [(2,Vp b2),(3,Vp b3),(9,.slice (some ⟨b8,o9,none⟩) len ca),(10,Vi (len:Int)),(11,Vi ((k:Int) + 1))] [.box b3 [Vi x.op,Vi x.k,Vi x.n,.string x.s,.string x.nm,sL v20],.box b2 [Vi 0,Vi 0,Vi 0,Ve,Ve,Vz],.row (sL v20) 47 6 ((rK (x.args.take k) vs)++[[Vi y.op,Vi y.k,Vi y.n,.string y.s,.string y.nm,sL u18]])] [(b1,0,[Vi x.op,Vi x.k,Vi x.n,.string x.s,.string x.nm,.slice (some ⟨b8,o9,none⟩) len ca])] ?_;exact iV (k + 1) (λX q=>⟨W14,sL v20,vs++[sL u18],q _ _ _ _ (mY (by rw [hsn,exRows_snoc hvl]; try rfl)),(S7.trans S15),by omega,by rw [hsn]; exact AllArgs.snoc f18 (hvs.sees S15)⟩)
  ·skip;have hta:x.args.take k=x.args:=by rw [<- hke, <- hL,Pk]
   rw [hta] at hvs ⊢;refine uQ 2 (v:=v) (e:=47) (kk:=6) (l:=rK x.args vs) ?_; intro A2 c2 hE_v hc_v hm_v;rw [hE_v];refine tQ (t:=decide ((k:Int) < (len:Int))) (Kj (by omega)) ?_;refine go0 2 [] [] ?_;refine xQ ?_;refine go0 9 [.b 0 0,.b 1 0] [] ?_;refine wQ [(2,Vp b2)] [.box b3 [Vi x.op,Vi x.k,Vi x.n,.string x.s,.string x.nm,.slice A2 ((rK x.args vs).length) c2],.box b2 [Vi x.op,Vi x.k,Vi x.n,.string x.s,.string x.nm,.slice A2 ((rK x.args vs).length) c2],.row (.slice A2 ((rK x.args vs).length) c2) 47 6 (rK x.args vs)] [(b1,0,[Vi x.op,Vi x.k,Vi x.n,.string x.s,.string x.nm,.slice A len ca])] ?_;refine hQ.toJ [.agg #[Vi x.op,Vi x.k,Vi x.n,.string x.s,.string x.nm,.slice A2 ((rK x.args vs).length) c2]] [] (λa w hJ=>?_) (ix:=[1]);have fr:=hJ.j.rowOut0 (v:=.slice A2 ((rK x.args vs).length) c2) (e:=47) (k:=6) (l:=rK x.args vs) 2 (by kernel_rfl) rfl;exact ⟨.slice A2 (rK x.args vs).length c2,rfl,IsArgs.mk fr (hvs.sees hJ.j.out)⟩
theorem copy_any (x:Ex) (v:Value) (h:Vw) (hx:IsArgs h x v) (hb:(szE x).1 < 1000000):C0 Tryz.prog 150 #[.agg #[Vi x.op,Vi x.k,Vi x.n,.string x.s,.string x.nm,v]] h (λr h'=>∃ u,r=.agg #[Vi x.op,Vi x.k,Vi x.n,.string x.s,.string x.nm,sL u] /\ IsArgs h' x (sL u)):=copy_rec _ x v h (Hj _) hx hb
theorem any_name {pre:Env} {p:ByteArray × Vl}:pre.any (λq=>q.1.toList == p.1.toList)=true↔p.1∈pre.map (·.1):=by
 rw [List.any_eq_true,Rj]
 constructor
 ·rintro ⟨q,hq,e⟩;rw [tl_dec] at e;exact ⟨q,hq,Yq e⟩
 ·rintro ⟨q,hq,e⟩;exact ⟨q,hq,by rw [tl_dec]; exact Jj e⟩
theorem factsV_ok (fs:List Fd):∀ (rest pre:Env),(∀ p∈rest,fZ fs p.1 p.2.k=0) -> ((pre++rest).map (·.1)).Nodup -> factsV fs pre rest=0
 | [],_,_,_=>rfl
 | p :: rest,pre,h,hd=>by
  have h0:=h p (by simp);have hd':(((pre++[p])++rest).map (·.1)).Nodup:=by simpa using hd
  have hn:¬ pre.any (λq=>q.1.toList == p.1.toList)=true:=λq=>by
   rw [any_name] at q;rw [Mk,Dq] at hd;exact hd.2.2 _ q p.1 (by simp) rfl
  unfold factsV;rw [Cj h0,Bj hn];exact factsV_ok fs rest (pre++[p]) (λq hq=>h q (by simp [hq])) hd'
end Go.Proofs.YthgcgciceejicaaGreatDoor
