/-
  Contracts of the generator: constant, leaf. Contract of the generator's leaf.
-/
import Derived.Test.YtmoahpojchndiaaGreatZL16
set_option maxRecDepth 100000
namespace Go.Proofs.YtmoahpojchndiaaGreat
open Go.RowKit
theorem rs_cells {h:Vw} {b k:Nat} (rows:List (List Value)) (hk:∀ r∈rows,r.length=k) (hm:rows.length≤maxLen) (c:Cells h b 0 rows.flatten):RS h k (.slice (some ⟨b,0,none⟩) rows.length rows.length) rows:=by
 refine .inr ⟨b,0,rows.length,rfl,Nat.le_refl _,hm,c.lt,c.ok,fun i r hi j v hj=>?_⟩
 have:=c.lies (i * k + j) v (flat_get rows hk i r j v hi hj)
 rwa [← Nat.add_assoc] at this
theorem gX (n m:Int) (h:1≤m):0≤cJ n m∧cJ n m < m:=⟨fX n m h,eX n m h⟩
theorem zJ (n m:Int) (h:Vw) (h0 : -9223372036854775808≤n) (h1:n≤9223372036854775807) (h2:1≤m) (h3:m≤9223372036854775807) :
  C0 Tryz.prog 19 #[.int .i64 n,.int .i64 m] h (fun v _=>v=.int .i64 (cJ n m)):=C0.of_same (fun w=>picked_any n m w h0 h1 h2 h3) h
theorem c_value (kind:Int) (x:RawD) (h:Vw) (h1:1≤kind) (h3:kind≤3) (hx:x.ok) :
  C0 Tryz.prog 21 #[.int .i64 kind,.agg #[.int .i64 x.k,.int .i64 x.a,.int .i64 x.b,.string x.t]] h (fun v _=>v=.agg #[.int .i64 kind,.int .i64 (valN kind x.k x.a),.string (valS kind x.t)]):=C0.of_gives (fun w=>val_any kind x w h1 h3 hx) h
theorem val_lim (kind:Int) (r:RawD) (h1:1≤kind) (h3:kind≤3) : -1099511627776≤valN kind r.k r.a∧valN kind r.k r.a≤1099511627776:=by
 rcases val_known kind r.k r.a r.t h1 h3 with ⟨_,⟨a,b⟩,_⟩ | ⟨_,h,_⟩ | ⟨_,h,_⟩
 ·exact ⟨a,b⟩
 ·omega
 ·omega
theorem constant_any (kind:Int) (r:RawD) (h:Vw) (h1:1≤kind) (h3:kind≤3) (hr:r.ok) :
  C0 Tryz.prog 150 #[.int .i64 kind,r.val] h (fun v _=>v=.agg (exRow (iK kind r) (.slice none 0 0)).toArray):=by
 have hv:=val_lim kind r h1 h3
 have hC:=c_value kind r
 have e:exRow (iK kind r) (.slice none 0 0)=[.int .i64 1,.int .i64 kind,.int .i64 (if kind=1 then absI (valN kind r.k r.a) else valN kind r.k r.a),.string (valS kind r.t),.string ⟨#[]⟩,.slice none 0 0]:=rfl
 rw [e]
 clear e
 generalize valN kind r.k r.a=vn at *
 generalize valS kind r.t=vs at *
 by_cases hk:kind=1
 ·have hk':(kind == 1)=true:=beq_iff_eq.2 hk
  by_cases hn:0 - vn > vn
  ·refine con_start Tryz.func150 rfl (N:=20) rfl (by kernel_rfl) ?_
   intro hbx hbad Q hQ a w hJ
   replace hJ:J ⟨20,h.w,h.bad,[]⟩ [(0,.int .i64 kind),(1,.agg #[.int .i64 r.k,.int .i64 r.a,.int .i64 r.b,.string r.t])] [] h a w:=hJ.to (by kernel_rfl) (by kernel_rfl)
   refine wp_seq ?_
   refine wp_region_lit ?_
   refine s_new hJ 3 (fun g=>.pointer (some ⟨g,0,none⟩)) [.int .i64 r.k,.int .i64 r.a,.int .i64 r.b,.string r.t] 47 (by kernel_rfl) (fun _=>by kernel_rfl) ?_; clear hJ a w; intro b1 a w hJ
   refine s_new hJ 4 (fun g=>.pointer (some ⟨g,0,none⟩)) [.int .i64 0,.int .i64 0,.int .i64 0,.string ⟨#[]⟩,.string ⟨#[]⟩,.slice none 0 0] 54 (by kernel_rfl) (fun _=>by kernel_rfl) ?_; clear hJ a w; intro b2 a w hJ
   refine wpList_nil ?_
   refine lJ ?_
   refine wp_seq ?_
   refine wp_region_lit ?_
   refine dY hJ 6 (.int .i64 kind) (by kernel_rfl) (fun _=>by kernel_rfl) ?_; clear hJ a; intro a hJ
   refine aY hJ (t:=47) (x:=(.tmp 3)) 7 (.agg #[.int .i64 r.k,.int .i64 r.a,.int .i64 r.b,.string r.t]) 1 (b:=b1) (off:=0) (cs:=[.int .i64 r.k,.int .i64 r.a,.int .i64 r.b,.string r.t]) (by kernel_rfl) (by kernel_rfl) (by kernel_rfl) (by kernel_rfl) (by kernel_rfl) ?_; clear hJ a; intro a hJ
   refine s_call hJ 8 (hC _ h1 h3 hr) (by kernel_rfl) (fun _=>by kernel_rfl) ?_; clear hJ a w; rintro _ h3 a w s4 rfl hJ
   refine s_new hJ 5 (fun g=>.pointer (some ⟨g,0,none⟩)) [.int .i64 0,.int .i64 0,.string ⟨#[]⟩] 42 (by kernel_rfl) (fun _=>by kernel_rfl) ?_; clear hJ a w; intro b5 a w hJ
   refine eY hJ (t:=42) (x:=(.tmp 5)) (y:=(.tmp 8)) 0 (.agg #[.int .i64 kind,.int .i64 vn,.string vs]) (b:=b5) (off:=0) (cs:=[.int .i64 0,.int .i64 0,.string ⟨#[]⟩]) [.int .i64 kind,.int .i64 vn,.string vs] (by kernel_rfl) (by kernel_rfl) (by kernel_rfl) (by kernel_rfl) (by kernel_rfl) (by kernel_rfl) (by kernel_rfl) ?_; clear hJ w; intro w hJ
   refine wpList_nil ?_
   refine lJ ?_
   refine wp_seq ?_
   refine wp_seq ?_
   refine wp_region_lit ?_
   refine dY hJ 9 (.int .i64 kind) (by kernel_rfl) (fun _=>by kernel_rfl) ?_; clear hJ a; intro a hJ
   refine dY hJ 10 (.bool (kind == 1)) (by kernel_rfl) (fun _=>by kernel_rfl) ?_; clear hJ a; intro a hJ
   refine wpList_nil ?_
   refine lJ ?_
   refine c_true hJ (t:=kind == 1) (by kernel_rfl) (hk') ?_
   refine wp_region_lit ?_
   refine dY hJ 11 (.pointer (some ⟨b5,1,none⟩)) (by kernel_rfl) (fun _=>by kernel_rfl) ?_; clear hJ a; intro a hJ
   refine aY hJ (t:=3) (x:=(.tmp 11)) 12 (.int .i64 vn) 0 (b:=b5) (off:=1) (cs:=[.int .i64 kind,.int .i64 vn,.string vs]) (by kernel_rfl) (by kernel_rfl) (by kernel_rfl) (by kernel_rfl) (by kernel_rfl) ?_; clear hJ a; intro a hJ
   refine dY hJ 13 (.pointer (some ⟨b5,1,none⟩)) (by kernel_rfl) (fun _=>by kernel_rfl) ?_; clear hJ a; intro a hJ
   refine aY hJ (t:=3) (x:=(.tmp 13)) 14 (.int .i64 vn) 0 (b:=b5) (off:=1) (cs:=[.int .i64 kind,.int .i64 vn,.string vs]) (by kernel_rfl) (by kernel_rfl) (by kernel_rfl) (by kernel_rfl) (by kernel_rfl) ?_; clear hJ a; intro a hJ
   refine dY hJ 15 (.int .i64 (0 - vn)) (by kernel_rfl) (fun w=>xX (by kernel_rfl) (jJ (by omega) (by omega))) ?_; clear hJ a; intro a hJ
   refine dY hJ 16 (.int .i64 (0 - vn)) (by kernel_rfl) (fun w=>xX (v0:=.int .i64 (if 0 - vn > vn then 0 - vn else vn)) (by kernel_rfl) (by rw [if_pos hn])) ?_; clear hJ a; intro a hJ
   refine dY hJ 17 (.pointer (some ⟨b5,1,none⟩)) (by kernel_rfl) (fun _=>by kernel_rfl) ?_; clear hJ a; intro a hJ
   refine eY hJ (t:=3) (x:=(.tmp 17)) (y:=(.tmp 16)) 0 (.int .i64 (0 - vn)) (b:=b5) (off:=1) (cs:=[.int .i64 kind,.int .i64 vn,.string vs]) [.int .i64 kind,.int .i64 (0 - vn),.string vs] (by kernel_rfl) (by kernel_rfl) (by kernel_rfl) (by kernel_rfl) (by kernel_rfl) (by kernel_rfl) (by kernel_rfl) ?_; clear hJ w; intro w hJ
   refine wpList_nil ?_
   refine lJ ?_
   refine wp_seq ?_
   refine wp_region_lit ?_
   refine aY hJ (t:=42) (x:=(.tmp 5)) 18 (.agg #[.int .i64 kind,.int .i64 (0 - vn),.string vs]) 0 (b:=b5) (off:=0) (cs:=[.int .i64 kind,.int .i64 (0 - vn),.string vs]) (by kernel_rfl) (by kernel_rfl) (by kernel_rfl) (by kernel_rfl) (by kernel_rfl) ?_; clear hJ a; intro a hJ
   refine dY hJ 19 (.agg #[.int .i64 1,.int .i64 kind,.int .i64 (0 - vn),.string vs,.string ⟨#[]⟩,.slice none 0 0]) (by kernel_rfl) (fun _=>by kernel_rfl) ?_; clear hJ a; intro a hJ
   refine eY hJ (t:=54) (x:=(.tmp 4)) (y:=(.tmp 19)) 1 (.agg #[.int .i64 1,.int .i64 kind,.int .i64 (0 - vn),.string vs,.string ⟨#[]⟩,.slice none 0 0]) (b:=b2) (off:=0) (cs:=[.int .i64 0,.int .i64 0,.int .i64 0,.string ⟨#[]⟩,.string ⟨#[]⟩,.slice none 0 0]) [.int .i64 1,.int .i64 kind,.int .i64 (0 - vn),.string vs,.string ⟨#[]⟩,.slice none 0 0] (by kernel_rfl) (by kernel_rfl) (by kernel_rfl) (by kernel_rfl) (by kernel_rfl) (by kernel_rfl) (by kernel_rfl) ?_; clear hJ w; intro w hJ
   refine wpList_nil ?_
   refine lJ ?_
   refine wp_ret ?_
   refine (hQ [.agg #[.int .i64 1,.int .i64 kind,.int .i64 (0 - vn),.string vs,.string ⟨#[]⟩,.slice none 0 0]] [.box b5 [.int .i64 kind,.int .i64 (0 - vn),.string vs],.box b2 [.int .i64 1,.int .i64 kind,.int .i64 (0 - vn),.string vs,.string ⟨#[]⟩,.slice none 0 0],.box b1 [.int .i64 r.k,.int .i64 r.a,.int .i64 r.b,.string r.t]] [] hJ (.rcell hJ 1 (b:=b2) (cs:=[.int .i64 1,.int .i64 kind,.int .i64 (0 - vn),.string vs,.string ⟨#[]⟩,.slice none 0 0]) (by kernel_rfl) (by kernel_rfl) (by kernel_rfl) .nil) (by kernel_rfl) (by kernel_rfl) ?_).1
   exact congrArg Value.agg (by rw [if_pos hk]; unfold absI; first | rw [if_pos (by omega),show -vn=0 - vn by omega] | rw [if_neg (by omega)])
  ·refine con_start Tryz.func150 rfl (N:=20) rfl (by kernel_rfl) ?_
   intro hbx hbad Q hQ a w hJ
   replace hJ:J ⟨20,h.w,h.bad,[]⟩ [(0,.int .i64 kind),(1,.agg #[.int .i64 r.k,.int .i64 r.a,.int .i64 r.b,.string r.t])] [] h a w:=hJ.to (by kernel_rfl) (by kernel_rfl)
   refine wp_seq ?_
   refine wp_region_lit ?_
   refine s_new hJ 3 (fun g=>.pointer (some ⟨g,0,none⟩)) [.int .i64 r.k,.int .i64 r.a,.int .i64 r.b,.string r.t] 47 (by kernel_rfl) (fun _=>by kernel_rfl) ?_; clear hJ a w; intro b1 a w hJ
   refine s_new hJ 4 (fun g=>.pointer (some ⟨g,0,none⟩)) [.int .i64 0,.int .i64 0,.int .i64 0,.string ⟨#[]⟩,.string ⟨#[]⟩,.slice none 0 0] 54 (by kernel_rfl) (fun _=>by kernel_rfl) ?_; clear hJ a w; intro b2 a w hJ
   refine wpList_nil ?_
   refine lJ ?_
   refine wp_seq ?_
   refine wp_region_lit ?_
   refine dY hJ 6 (.int .i64 kind) (by kernel_rfl) (fun _=>by kernel_rfl) ?_; clear hJ a; intro a hJ
   refine aY hJ (t:=47) (x:=(.tmp 3)) 7 (.agg #[.int .i64 r.k,.int .i64 r.a,.int .i64 r.b,.string r.t]) 1 (b:=b1) (off:=0) (cs:=[.int .i64 r.k,.int .i64 r.a,.int .i64 r.b,.string r.t]) (by kernel_rfl) (by kernel_rfl) (by kernel_rfl) (by kernel_rfl) (by kernel_rfl) ?_; clear hJ a; intro a hJ
   refine s_call hJ 8 (hC _ h1 h3 hr) (by kernel_rfl) (fun _=>by kernel_rfl) ?_; clear hJ a w; rintro _ h3 a w s4 rfl hJ
   refine s_new hJ 5 (fun g=>.pointer (some ⟨g,0,none⟩)) [.int .i64 0,.int .i64 0,.string ⟨#[]⟩] 42 (by kernel_rfl) (fun _=>by kernel_rfl) ?_; clear hJ a w; intro b5 a w hJ
   refine eY hJ (t:=42) (x:=(.tmp 5)) (y:=(.tmp 8)) 0 (.agg #[.int .i64 kind,.int .i64 vn,.string vs]) (b:=b5) (off:=0) (cs:=[.int .i64 0,.int .i64 0,.string ⟨#[]⟩]) [.int .i64 kind,.int .i64 vn,.string vs] (by kernel_rfl) (by kernel_rfl) (by kernel_rfl) (by kernel_rfl) (by kernel_rfl) (by kernel_rfl) (by kernel_rfl) ?_; clear hJ w; intro w hJ
   refine wpList_nil ?_
   refine lJ ?_
   refine wp_seq ?_
   refine wp_seq ?_
   refine wp_region_lit ?_
   refine dY hJ 9 (.int .i64 kind) (by kernel_rfl) (fun _=>by kernel_rfl) ?_; clear hJ a; intro a hJ
   refine dY hJ 10 (.bool (kind == 1)) (by kernel_rfl) (fun _=>by kernel_rfl) ?_; clear hJ a; intro a hJ
   refine wpList_nil ?_
   refine lJ ?_
   refine c_true hJ (t:=kind == 1) (by kernel_rfl) (hk') ?_
   refine wp_region_lit ?_
   refine dY hJ 11 (.pointer (some ⟨b5,1,none⟩)) (by kernel_rfl) (fun _=>by kernel_rfl) ?_; clear hJ a; intro a hJ
   refine aY hJ (t:=3) (x:=(.tmp 11)) 12 (.int .i64 vn) 0 (b:=b5) (off:=1) (cs:=[.int .i64 kind,.int .i64 vn,.string vs]) (by kernel_rfl) (by kernel_rfl) (by kernel_rfl) (by kernel_rfl) (by kernel_rfl) ?_; clear hJ a; intro a hJ
   refine dY hJ 13 (.pointer (some ⟨b5,1,none⟩)) (by kernel_rfl) (fun _=>by kernel_rfl) ?_; clear hJ a; intro a hJ
   refine aY hJ (t:=3) (x:=(.tmp 13)) 14 (.int .i64 vn) 0 (b:=b5) (off:=1) (cs:=[.int .i64 kind,.int .i64 vn,.string vs]) (by kernel_rfl) (by kernel_rfl) (by kernel_rfl) (by kernel_rfl) (by kernel_rfl) ?_; clear hJ a; intro a hJ
   refine dY hJ 15 (.int .i64 (0 - vn)) (by kernel_rfl) (fun w=>xX (by kernel_rfl) (jJ (by omega) (by omega))) ?_; clear hJ a; intro a hJ
   refine dY hJ 16 (.int .i64 vn) (by kernel_rfl) (fun w=>xX (v0:=.int .i64 (if 0 - vn > vn then 0 - vn else vn)) (by kernel_rfl) (by rw [if_neg hn])) ?_; clear hJ a; intro a hJ
   refine dY hJ 17 (.pointer (some ⟨b5,1,none⟩)) (by kernel_rfl) (fun _=>by kernel_rfl) ?_; clear hJ a; intro a hJ
   refine eY hJ (t:=3) (x:=(.tmp 17)) (y:=(.tmp 16)) 0 (.int .i64 vn) (b:=b5) (off:=1) (cs:=[.int .i64 kind,.int .i64 vn,.string vs]) [.int .i64 kind,.int .i64 vn,.string vs] (by kernel_rfl) (by kernel_rfl) (by kernel_rfl) (by kernel_rfl) (by kernel_rfl) (by kernel_rfl) (by kernel_rfl) ?_; clear hJ w; intro w hJ
   refine wpList_nil ?_
   refine lJ ?_
   refine wp_seq ?_
   refine wp_region_lit ?_
   refine aY hJ (t:=42) (x:=(.tmp 5)) 18 (.agg #[.int .i64 kind,.int .i64 vn,.string vs]) 0 (b:=b5) (off:=0) (cs:=[.int .i64 kind,.int .i64 vn,.string vs]) (by kernel_rfl) (by kernel_rfl) (by kernel_rfl) (by kernel_rfl) (by kernel_rfl) ?_; clear hJ a; intro a hJ
   refine dY hJ 19 (.agg #[.int .i64 1,.int .i64 kind,.int .i64 vn,.string vs,.string ⟨#[]⟩,.slice none 0 0]) (by kernel_rfl) (fun _=>by kernel_rfl) ?_; clear hJ a; intro a hJ
   refine eY hJ (t:=54) (x:=(.tmp 4)) (y:=(.tmp 19)) 1 (.agg #[.int .i64 1,.int .i64 kind,.int .i64 vn,.string vs,.string ⟨#[]⟩,.slice none 0 0]) (b:=b2) (off:=0) (cs:=[.int .i64 0,.int .i64 0,.int .i64 0,.string ⟨#[]⟩,.string ⟨#[]⟩,.slice none 0 0]) [.int .i64 1,.int .i64 kind,.int .i64 vn,.string vs,.string ⟨#[]⟩,.slice none 0 0] (by kernel_rfl) (by kernel_rfl) (by kernel_rfl) (by kernel_rfl) (by kernel_rfl) (by kernel_rfl) (by kernel_rfl) ?_; clear hJ w; intro w hJ
   refine wpList_nil ?_
   refine lJ ?_
   refine wp_ret ?_
   refine (hQ [.agg #[.int .i64 1,.int .i64 kind,.int .i64 vn,.string vs,.string ⟨#[]⟩,.slice none 0 0]] [.box b5 [.int .i64 kind,.int .i64 vn,.string vs],.box b2 [.int .i64 1,.int .i64 kind,.int .i64 vn,.string vs,.string ⟨#[]⟩,.slice none 0 0],.box b1 [.int .i64 r.k,.int .i64 r.a,.int .i64 r.b,.string r.t]] [] hJ (.rcell hJ 1 (b:=b2) (cs:=[.int .i64 1,.int .i64 kind,.int .i64 vn,.string vs,.string ⟨#[]⟩,.slice none 0 0]) (by kernel_rfl) (by kernel_rfl) (by kernel_rfl) .nil) (by kernel_rfl) (by kernel_rfl) ?_).1
   exact congrArg Value.agg (by rw [if_pos hk]; unfold absI; first | rw [if_pos (by omega),show -vn=0 - vn by omega] | rw [if_neg (by omega)])
 ·have hk':(kind == 1)=false:=beq_eq_false_iff_ne.2 hk
  refine con_start Tryz.func150 rfl (N:=20) rfl (by kernel_rfl) ?_
  intro hbx hbad Q hQ a w hJ
  replace hJ:J ⟨20,h.w,h.bad,[]⟩ [(0,.int .i64 kind),(1,.agg #[.int .i64 r.k,.int .i64 r.a,.int .i64 r.b,.string r.t])] [] h a w:=hJ.to (by kernel_rfl) (by kernel_rfl)
  refine wp_seq ?_
  refine wp_region_lit ?_
  refine s_new hJ 3 (fun g=>.pointer (some ⟨g,0,none⟩)) [.int .i64 r.k,.int .i64 r.a,.int .i64 r.b,.string r.t] 47 (by kernel_rfl) (fun _=>by kernel_rfl) ?_; clear hJ a w; intro b1 a w hJ
  refine s_new hJ 4 (fun g=>.pointer (some ⟨g,0,none⟩)) [.int .i64 0,.int .i64 0,.int .i64 0,.string ⟨#[]⟩,.string ⟨#[]⟩,.slice none 0 0] 54 (by kernel_rfl) (fun _=>by kernel_rfl) ?_; clear hJ a w; intro b2 a w hJ
  refine wpList_nil ?_
  refine lJ ?_
  refine wp_seq ?_
  refine wp_region_lit ?_
  refine dY hJ 6 (.int .i64 kind) (by kernel_rfl) (fun _=>by kernel_rfl) ?_; clear hJ a; intro a hJ
  refine aY hJ (t:=47) (x:=(.tmp 3)) 7 (.agg #[.int .i64 r.k,.int .i64 r.a,.int .i64 r.b,.string r.t]) 1 (b:=b1) (off:=0) (cs:=[.int .i64 r.k,.int .i64 r.a,.int .i64 r.b,.string r.t]) (by kernel_rfl) (by kernel_rfl) (by kernel_rfl) (by kernel_rfl) (by kernel_rfl) ?_; clear hJ a; intro a hJ
  refine s_call hJ 8 (hC _ h1 h3 hr) (by kernel_rfl) (fun _=>by kernel_rfl) ?_; clear hJ a w; rintro _ h3 a w s4 rfl hJ
  refine s_new hJ 5 (fun g=>.pointer (some ⟨g,0,none⟩)) [.int .i64 0,.int .i64 0,.string ⟨#[]⟩] 42 (by kernel_rfl) (fun _=>by kernel_rfl) ?_; clear hJ a w; intro b5 a w hJ
  refine eY hJ (t:=42) (x:=(.tmp 5)) (y:=(.tmp 8)) 0 (.agg #[.int .i64 kind,.int .i64 vn,.string vs]) (b:=b5) (off:=0) (cs:=[.int .i64 0,.int .i64 0,.string ⟨#[]⟩]) [.int .i64 kind,.int .i64 vn,.string vs] (by kernel_rfl) (by kernel_rfl) (by kernel_rfl) (by kernel_rfl) (by kernel_rfl) (by kernel_rfl) (by kernel_rfl) ?_; clear hJ w; intro w hJ
  refine wpList_nil ?_
  refine lJ ?_
  refine wp_seq ?_
  refine wp_seq ?_
  refine wp_region_lit ?_
  refine dY hJ 9 (.int .i64 kind) (by kernel_rfl) (fun _=>by kernel_rfl) ?_; clear hJ a; intro a hJ
  refine dY hJ 10 (.bool (kind == 1)) (by kernel_rfl) (fun _=>by kernel_rfl) ?_; clear hJ a; intro a hJ
  refine wpList_nil ?_
  refine lJ ?_
  refine c_false hJ (t:=kind == 1) (by kernel_rfl) (hk') ?_
  refine wp_skip ?_
  refine lJ ?_
  refine wp_seq ?_
  refine wp_region_lit ?_
  refine aY hJ (t:=42) (x:=(.tmp 5)) 18 (.agg #[.int .i64 kind,.int .i64 vn,.string vs]) 0 (b:=b5) (off:=0) (cs:=[.int .i64 kind,.int .i64 vn,.string vs]) (by kernel_rfl) (by kernel_rfl) (by kernel_rfl) (by kernel_rfl) (by kernel_rfl) ?_; clear hJ a; intro a hJ
  refine dY hJ 19 (.agg #[.int .i64 1,.int .i64 kind,.int .i64 vn,.string vs,.string ⟨#[]⟩,.slice none 0 0]) (by kernel_rfl) (fun _=>by kernel_rfl) ?_; clear hJ a; intro a hJ
  refine eY hJ (t:=54) (x:=(.tmp 4)) (y:=(.tmp 19)) 1 (.agg #[.int .i64 1,.int .i64 kind,.int .i64 vn,.string vs,.string ⟨#[]⟩,.slice none 0 0]) (b:=b2) (off:=0) (cs:=[.int .i64 0,.int .i64 0,.int .i64 0,.string ⟨#[]⟩,.string ⟨#[]⟩,.slice none 0 0]) [.int .i64 1,.int .i64 kind,.int .i64 vn,.string vs,.string ⟨#[]⟩,.slice none 0 0] (by kernel_rfl) (by kernel_rfl) (by kernel_rfl) (by kernel_rfl) (by kernel_rfl) (by kernel_rfl) (by kernel_rfl) ?_; clear hJ w; intro w hJ
  refine wpList_nil ?_
  refine lJ ?_
  refine wp_ret ?_
  refine (hQ [.agg #[.int .i64 1,.int .i64 kind,.int .i64 vn,.string vs,.string ⟨#[]⟩,.slice none 0 0]] [.box b5 [.int .i64 kind,.int .i64 vn,.string vs],.box b2 [.int .i64 1,.int .i64 kind,.int .i64 vn,.string vs,.string ⟨#[]⟩,.slice none 0 0],.box b1 [.int .i64 r.k,.int .i64 r.a,.int .i64 r.b,.string r.t]] [] hJ (.rcell hJ 1 (b:=b2) (cs:=[.int .i64 1,.int .i64 kind,.int .i64 vn,.string vs,.string ⟨#[]⟩,.slice none 0 0]) (by kernel_rfl) (by kernel_rfl) (by kernel_rfl) .nil) (by kernel_rfl) (by kernel_rfl) ?_).1
  exact congrArg Value.agg (by rw [if_neg hk])
theorem rawAt_ok {l:List RawD} (hl:∀ r∈l,r.ok) (n:Nat):(aJ l n).ok:=by
 unfold aJ
 split
 ·rename_i r e
  have:=hl r (List.mem_of_getElem? e)
  obtain ⟨h1,h2,h3,h4⟩:=this
  refine ⟨h1,?_,h3,h4⟩
  dsimp only
  rw [IntKind.wrap_i64]
  constructor <;> omega
 ·exact ⟨⟨by simp,by simp⟩,⟨by simp,by simp⟩,⟨by simp,by simp⟩,by exact Nat.zero_le _⟩
theorem gen_next_none (g:Nat) (sl:Value) (n:Nat) (h:Vw) (hr:RS h 4 sl []) :
  C1 Tryz.prog 77 #[.pointer (some ⟨g,0,none⟩)] h g [sl,.int .i64 (n:Int)] (fun v cs' _=>v=(aJ [] n).val∧cs'=[sl,.int .i64 (n:Int)]):=by
 obtain ⟨A,cap,rfl,-⟩:=hr.form
 refine con_start Tryz.func77 rfl (N:=49) rfl (by kernel_rfl) ?_
 intro hbx hbad Q hQ a w hJ
 replace hJ:J ⟨49,h.w,h.bad,[g]⟩ [(0,.pointer (some ⟨g,0,none⟩))] [.box g [.slice A 0 cap,.int .i64 (n:Int)]] h a w:=hJ.to (by kernel_rfl) (by kernel_rfl)
 refine wp_seq ?_
 refine wp_region_lit ?_
 refine s_new hJ 2 (fun g=>.pointer (some ⟨g,0,none⟩)) [.int .i64 0,.int .i64 0,.int .i64 0,.string ⟨#[]⟩] 47 (by kernel_rfl) (fun _=>by kernel_rfl) ?_; clear hJ a w; intro b1 a w hJ
 refine wpList_nil ?_
 refine lJ ?_
 refine wp_seq ?_
 refine wp_seq ?_
 refine wp_region_lit ?_
 refine dY hJ 4 (.pointer (some ⟨g,0,none⟩)) (by kernel_rfl) (fun _=>by kernel_rfl) ?_; clear hJ a; intro a hJ
 refine dY hJ 5 (.pointer (some ⟨g,0,none⟩)) (by kernel_rfl) (fun _=>by kernel_rfl) ?_; clear hJ a; intro a hJ
 refine dY hJ 6 (.pointer (some ⟨g,0,none⟩)) (by kernel_rfl) (fun _=>by kernel_rfl) ?_; clear hJ a; intro a hJ
 refine aY hJ (t:=22) (x:=(.tmp 6)) 7 (.slice A 0 cap) 1 (b:=g) (off:=0) (cs:=[.slice A 0 cap,.int .i64 (n:Int)]) (by kernel_rfl) (by kernel_rfl) (by kernel_rfl) (by kernel_rfl) (by kernel_rfl) ?_; clear hJ a; intro a hJ
 refine dY hJ 8 (.int .i64 0) (by kernel_rfl) (fun _=>by kernel_rfl) ?_; clear hJ a; intro a hJ
 refine dY hJ 9 (.bool true) (by kernel_rfl) (fun _=>by kernel_rfl) ?_; clear hJ a; intro a hJ
 refine wpList_nil ?_
 refine lJ ?_
 refine c_true hJ (t:=true) (by kernel_rfl) rfl ?_
 refine wp_seq ?_
 refine wp_region_lit ?_
 refine dY hJ 10 (.agg #[.int .i64 0,.int .i64 0,.int .i64 0,.string ⟨#[]⟩]) (by kernel_rfl) (fun _=>by kernel_rfl) ?_; clear hJ a; intro a hJ
 refine eY hJ (t:=47) (x:=(.tmp 2)) (y:=(.tmp 10)) 0 (.agg #[.int .i64 0,.int .i64 0,.int .i64 0,.string ⟨#[]⟩]) (b:=b1) (off:=0) (cs:=[.int .i64 0,.int .i64 0,.int .i64 0,.string ⟨#[]⟩]) [.int .i64 0,.int .i64 0,.int .i64 0,.string ⟨#[]⟩] (by kernel_rfl) (by kernel_rfl) (by kernel_rfl) (by kernel_rfl) (by kernel_rfl) (by kernel_rfl) (by kernel_rfl) ?_; clear hJ w; intro w hJ
 refine wpList_nil ?_
 refine lJ ?_
 refine wp_ret ?_
 refine then_ret ?_
 refine (hQ [.agg #[.int .i64 0,.int .i64 0,.int .i64 0,.string ⟨#[]⟩]] [.box b1 [.int .i64 0,.int .i64 0,.int .i64 0,.string ⟨#[]⟩]] [(g,[.slice A 0 cap,.int .i64 (n:Int)])] hJ (.rcell hJ 0 (b:=b1) (cs:=[.int .i64 0,.int .i64 0,.int .i64 0,.string ⟨#[]⟩]) (by kernel_rfl) (by kernel_rfl) (by kernel_rfl) .nil) (by kernel_rfl) (by kernel_rfl) ?_).1
 exact ⟨_,rfl,rfl,rfl⟩
theorem gV (g:Nat) (l:List RawD) (sl:Value) (n:Nat) (h:Vw) (hr:RS h 4 sl (l.map RawD.cs)) (hn:n < 1000000) (hlen:l.length * 40≤reachBytes) :
  C1 Tryz.prog 77 #[.pointer (some ⟨g,0,none⟩)] h g [sl,.int .i64 (n:Int)] (fun v cs' _=>v=(aJ l n).val∧cs'=[sl,.int .i64 ((bJ l n:Nat):Int)]):=by
 by_cases hl:l=[]
 ·subst hl
  have e:bJ [] n=n:=rfl
  rw [e]
  exact gen_next_none g sl n h hr
 ·have e:bJ l n=n + 1:=if_neg hl
  rw [e]
  exact gen_next_some g l sl n h hr hl hn hlen
end Go.Proofs.YtmoahpojchndiaaGreat
namespace Go.Proofs.YtmoahpojchndiaaGreat
open Go.RowKit
def zE:Ex:=.mk 0 0 0 ⟨#[]⟩ ⟨#[]⟩ []
abbrev pY (l:List ByteArray):List (List Value):=l.map (fun s=>[.string s])
theorem namesOf_succ {fs:List Fd} {kind:Int} {k:Nat} {f:Fd} (hf:fs[k]?=some f):dW (fs.take (k + 1)) kind=dW (fs.take k) kind++(if f.ty == kind then [f.name] else []):=by
 unfold dW
 rw [List.take_add_one,hf,List.filter_append,List.map_append]
 congr 1
 by_cases h:f.ty == kind <;> simp [h]
theorem namesOf_len (fs:List Fd) (kind:Int):(dW fs kind).length≤fs.length:=by
 unfold dW; rw [List.length_map]; exact List.length_filter_le _ _
theorem leaf_any (g:Nat) (l:List RawD) (sl:Value) (n:Nat) (kind:Int) (fs:List Fd) (fv:Value) (m:List Nat) (h:Vw) (hr:RS h 4 sl (l.map RawD.cs)) (hn:n < 1000000) (hlen:l.length * 40≤reachBytes) (hok:∀ r∈l,r.ok)
  (h1:1≤kind) (h3:kind≤3) (hf:IsFds ⟨h.w,m⟩ fv fs) (hfs:fs.length≤100) (hg:g∈m) :
  C1 Tryz.prog 114 #[.pointer (some ⟨g,0,none⟩),.int .i64 kind,fv] h g [sl,.int .i64 (n:Int)] (fun v cs' _=>v=.agg (exRow (sV (aJ l n) fs kind) (.slice none 0 0)).toArray∧cs'=[sl,.int .i64 ((bJ l n:Nat):Int)]):=by
 obtain ⟨fvs,hrs,hsrc⟩:=hf
 have hfl:=bQ hsrc.len
 have hvl:=hsrc.len
 obtain ⟨A,cap,rfl,hc1,hc2,-⟩:=hrs.form
 rw [hfl] at hc1 hrs ⊢
 have hm:∀ b∈[g],b∈m:=fun b hb=>by simp at hb; rw [hb]; exact hg
 have hro:=rawAt_ok hok n
 have hcon:=constant_any kind (aJ l n)
 have hnl:=namesOf_len fs kind
 have hpi:=zJ (aJ l n).k 4
 have hpb:=zJ (aJ l n).b (dW fs kind).length
 generalize hL:fs.length=len at *
 refine con_start Tryz.func114 rfl (N:=50) rfl (by kernel_rfl) ?_
 intro hbx hbad Q hQ a w hJ
 replace hJ:J ⟨50,h.w,h.bad,[g]⟩ [(0,.pointer (some ⟨g,0,none⟩)),(1,.int .i64 kind),(2,.slice A len cap)] [.box g [sl,.int .i64 (n:Int)]] h a w:=hJ.to (by kernel_rfl) (by kernel_rfl)
 refine wp_seq ?_
 refine wp_region_lit ?_
 refine s_new hJ 6 (fun g=>.pointer (some ⟨g,0,none⟩)) [.int .i64 0,.int .i64 0,.int .i64 0,.string ⟨#[]⟩,.string ⟨#[]⟩,.slice none 0 0] 54 (by kernel_rfl) (fun _=>by kernel_rfl) ?_; clear hJ a w; intro b1 a w hJ
 refine wpList_nil ?_
 refine lJ ?_
 refine wp_seq ?_
 refine wp_region_lit ?_
 refine dY hJ 11 (.pointer (some ⟨g,0,none⟩)) (by kernel_rfl) (fun _=>by kernel_rfl) ?_; clear hJ a; intro a hJ
 refine s_call1 hJ 12 1 (gV g l sl n _ (hr.sees hJ.sees) hn hlen) (by kernel_rfl) (by kernel_rfl) (fun _=>by kernel_rfl) ?_; clear hJ a w; rintro _ _ h2 a w s3 ⟨rfl,rfl⟩ hJ
 refine s_new hJ 7 (fun g=>.pointer (some ⟨g,0,none⟩)) [.int .i64 0,.int .i64 0,.int .i64 0,.string ⟨#[]⟩] 47 (by kernel_rfl) (fun _=>by kernel_rfl) ?_; clear hJ a w; intro b4 a w hJ
 refine eY hJ (t:=47) (x:=(.tmp 7)) (y:=(.tmp 12)) 0 (.agg #[.int .i64 ((aJ l n).k),.int .i64 ((aJ l n).a),.int .i64 ((aJ l n).b),.string ((aJ l n).t)]) (b:=b4) (off:=0) (cs:=[.int .i64 0,.int .i64 0,.int .i64 0,.string ⟨#[]⟩]) [.int .i64 ((aJ l n).k),.int .i64 ((aJ l n).a),.int .i64 ((aJ l n).b),.string ((aJ l n).t)] (by kernel_rfl) (by kernel_rfl) (by kernel_rfl) (by kernel_rfl) (by kernel_rfl) (by kernel_rfl) (by kernel_rfl) ?_; clear hJ w; intro w hJ
 refine wpList_nil ?_
 refine lJ ?_
 refine wp_seq ?_
 refine wp_region_lit ?_
 refine dY hJ 8 (.slice none 0 0) (by kernel_rfl) (fun _=>by kernel_rfl) ?_; clear hJ a; intro a hJ
 refine wpList_nil ?_
 refine lJ ?_
 refine wp_seq ?_
 refine wp_seq ?_
 refine wp_region_lit ?_
 refine dY hJ 13 (.slice A len cap) (by kernel_rfl) (fun _=>by kernel_rfl) ?_; clear hJ a; intro a hJ
 refine dY hJ 14 (.int .i64 (len:Int)) (by kernel_rfl) (fun _=>by kernel_rfl) ?_; clear hJ a; intro a hJ
 refine dY hJ 15 (.int .i64 0) (by kernel_rfl) (fun _=>by kernel_rfl) ?_; clear hJ a; intro a hJ
 refine wpList_nil ?_
 refine lJ ?_
 refine wp_block ?_
 replace hJ:=hJ.nilrow 9 1
 refine c_loop (fun (k:Nat) a w=>∃ (h5:Vw) (v:Value),J ⟨50,h.w,h.bad,[g]⟩ [(0,.pointer (some ⟨g,0,none⟩)),(1,.int .i64 kind),(2,.slice A len cap),(6,.pointer (some ⟨b1,0,none⟩)),(11,.pointer (some ⟨g,0,none⟩)),(12,.agg #[.int .i64 ((aJ l n).k),.int .i64 ((aJ l n).a),.int .i64 ((aJ l n).b),.string ((aJ l n).t)]),(7,.pointer (some ⟨b4,0,none⟩)),(13,.slice A len cap),(14,.int .i64 (len:Int)),(15,.int .i64 (k:Int)),(8,v)] [.row v 9 1 (pY (dW (fs.take k) kind)),.box b4 [.int .i64 ((aJ l n).k),.int .i64 ((aJ l n).a),.int .i64 ((aJ l n).b),.string ((aJ l n).t)],.box b1 [.int .i64 0,.int .i64 0,.int .i64 0,.string ⟨#[]⟩,.string ⟨#[]⟩,.slice none 0 0],.box g [sl,.int .i64 ((bJ l n:Nat):Int)]] h5 a w∧Sees h2 h5∧(k≤len)) (fun k=>len - k) (0) ⟨h2,(.slice none 0 0),hJ.to (by kernel_rfl) (by kernel_rfl),Sees.refl _,Nat.zero_le _⟩ ?_
 clear hJ a w; rintro k a w ⟨h5,v,hJ,s6,hk⟩
 refine wp_seq ?_
 refine wp_region_lit ?_
 refine dY hJ 16 (.bool (decide ((k:Int) < (len:Int)))) (by kernel_rfl) (fun _=>by kernel_rfl) ?_; clear hJ a; intro a hJ
 refine wpList_nil ?_
 refine lJ ?_
 refine wp_seq ?_
 rcases (by omega:k < len∨len=k) with hlt | hke
 ·obtain ⟨f,hfk⟩:∃ f,fs[k]?=some f:=⟨_,List.getElem?_eq_getElem (by omega)⟩
  obtain ⟨u,huk⟩:∃ u,fvs[k]?=some u:=⟨_,List.getElem?_eq_getElem (by omega)⟩
  have hrow:(zK fs fvs)[k]?=some _:=aQ hfk huk
  obtain ⟨Au,nu,cu,rfl⟩:=(AllArgs.get hsrc (by rw [List.getElem?_map,hfk]; rfl) huk).slice
  have hns:=namesOf_succ (kind:=kind) hfk
  have hnk:=namesOf_len (fs.take k) kind
  rw [List.length_take] at hnk
  refine c_true hJ (t:=decide ((k:Int) < (len:Int))) (by kernel_rfl) (decide_eq_true (by omega)) ?_
  refine wp_skip ?_
  refine lJ ?_
  refine wp_seq ?_
  refine wp_block ?_
  refine wp_seq ?_
  refine wp_region_lit ?_
  refine s_index hJ 17 (t:=26) (e:=56) (x:=(.tmp 13)) (y:=(.tmp 15)) (A:=A) (n:=len) (cap:=cap) (i:=k) (kk:=9) (r:=[.string f.name,.int .i64 f.kind,.int .i64 f.ty,.int .i64 f.src.op,.int .i64 f.src.k,.int .i64 f.src.n,.string f.src.s,.string f.src.nm,.slice Au nu cu]) (hrs) (hrow) (by kernel_rfl) (by kernel_rfl) (by kernel_rfl) (by kernel_rfl) Tryz.underlying26 (by kernel_rfl) ?_; clear hJ a; intro b7 o8 a c9 hJ
  refine s_loadl hJ (t:=56) (x:=(.tmp 17)) 18 (.agg #[.string f.name,.int .i64 f.kind,.int .i64 f.ty,.int .i64 f.src.op,.int .i64 f.src.k,.int .i64 f.src.n,.string f.src.s,.string f.src.nm,.slice Au nu cu]) (off:=0) c9 (hm) (by kernel_rfl) (by kernel_rfl) (by kernel_rfl) (by kernel_rfl) ?_; clear hJ a; intro a hJ
  refine s_new hJ 10 (fun g=>.pointer (some ⟨g,0,none⟩)) [.string ⟨#[]⟩,.int .i64 0,.int .i64 0,.int .i64 0,.int .i64 0,.int .i64 0,.string ⟨#[]⟩,.string ⟨#[]⟩,.slice none 0 0] 56 (by kernel_rfl) (fun _=>by kernel_rfl) ?_; clear hJ a w; intro b10 a w hJ
  refine eY hJ (t:=56) (x:=(.tmp 10)) (y:=(.tmp 18)) 0 (.agg #[.string f.name,.int .i64 f.kind,.int .i64 f.ty,.int .i64 f.src.op,.int .i64 f.src.k,.int .i64 f.src.n,.string f.src.s,.string f.src.nm,.slice Au nu cu]) (b:=b10) (off:=0) (cs:=[.string ⟨#[]⟩,.int .i64 0,.int .i64 0,.int .i64 0,.int .i64 0,.int .i64 0,.string ⟨#[]⟩,.string ⟨#[]⟩,.slice none 0 0]) [.string f.name,.int .i64 f.kind,.int .i64 f.ty,.int .i64 f.src.op,.int .i64 f.src.k,.int .i64 f.src.n,.string f.src.s,.string f.src.nm,.slice Au nu cu] (by kernel_rfl) (by kernel_rfl) (by kernel_rfl) (by kernel_rfl) (by kernel_rfl) (by kernel_rfl) (by kernel_rfl) ?_; clear hJ w; intro w hJ
  refine wpList_nil ?_
  refine lJ ?_
  refine wp_seq ?_
  refine wp_region_lit ?_
  refine dY hJ 19 (.pointer (some ⟨b10,2,none⟩)) (by kernel_rfl) (fun _=>by kernel_rfl) ?_; clear hJ a; intro a hJ
  refine aY hJ (t:=3) (x:=(.tmp 19)) 20 (.int .i64 f.ty) 0 (b:=b10) (off:=2) (cs:=[.string f.name,.int .i64 f.kind,.int .i64 f.ty,.int .i64 f.src.op,.int .i64 f.src.k,.int .i64 f.src.n,.string f.src.s,.string f.src.nm,.slice Au nu cu]) (by kernel_rfl) (by kernel_rfl) (by kernel_rfl) (by kernel_rfl) (by kernel_rfl) ?_; clear hJ a; intro a hJ
  refine dY hJ 21 (.int .i64 kind) (by kernel_rfl) (fun _=>by kernel_rfl) ?_; clear hJ a; intro a hJ
  refine dY hJ 22 (.bool (f.ty == kind)) (by kernel_rfl) (fun _=>by kernel_rfl) ?_; clear hJ a; intro a hJ
  refine wpList_nil ?_
  refine lJ ?_
  cases hty:f.ty == kind
  ·rw [hty] at hns
   refine c_false hJ (t:=f.ty == kind) (by kernel_rfl) (hty) ?_
   refine wp_skip ?_
   refine block_normal ?_
   refine lJ ?_
   refine wp_region_lit ?_
   refine dY hJ 28 (.int .i64 ((k:Int) + 1)) (by kernel_rfl) (fun w=>xX (by kernel_rfl) (jJ (by omega) (by omega))) ?_; clear hJ a; intro a hJ
   refine dY hJ 15 (.int .i64 ((k:Int) + 1)) (by kernel_rfl) (fun _=>by kernel_rfl) ?_; clear hJ a; intro a hJ
   refine wpList_nil ?_
   replace hJ:=hJ.drop 0
   exact lJ ⟨k + 1,⟨h5,v,hJ.to (by kernel_rfl) (by rw [hns]; simp [pY]),s6,by omega⟩,by omega⟩
  ·skip
   rw [hty] at hns
   refine c_true hJ (t:=f.ty == kind) (by kernel_rfl) (hty) ?_
   refine wp_region_lit ?_
   refine dY hJ 23 (v) (by kernel_rfl) (fun _=>by kernel_rfl) ?_; clear hJ a; intro a hJ
   refine dY hJ 24 (.pointer (some ⟨b10,0,none⟩)) (by kernel_rfl) (fun _=>by kernel_rfl) ?_; clear hJ a; intro a hJ
   refine aY hJ (t:=9) (x:=(.tmp 24)) 25 (.string f.name) 0 (b:=b10) (off:=0) (cs:=[.string f.name,.int .i64 f.kind,.int .i64 f.ty,.int .i64 f.src.op,.int .i64 f.src.k,.int .i64 f.src.n,.string f.src.s,.string f.src.nm,.slice Au nu cu]) (by kernel_rfl) (by kernel_rfl) (by kernel_rfl) (by kernel_rfl) (by kernel_rfl) ?_; clear hJ a; intro a hJ
   refine s_fact hJ 26 (fun g=>.slice (some ⟨g,0,none⟩) 1 1) [.string f.name] 9 (by kernel_rfl) (fun _=>by kernel_rfl) ?_; clear hJ a w; intro b11 h12 a w s13 f14 hJ
   refine s_append hJ 27 1 (v:=v) (kk:=1) (t:=57) (te:=9) (l:=(pY (dW (fs.take k) kind))) (ns:=[[.string f.name]]) (b:=b11) (m:=1) (c:=1) (y:=(.tmp 23)) (z:=(.tmp 26)) (zv:=.string ⟨#[]⟩) (bytes:=16) (by kernel_rfl) (by kernel_rfl) (by kernel_rfl) (by kernel_rfl) (by kernel_rfl) (by kernel_rfl) f14 (Sees.refl _) Tryz.underlying57 (by kernel_rfl) (by kernel_rfl) (by kernel_rfl) (by constructor <;> (simp; omega)) ?_; clear hJ a w; intro v15 h16 a w s17 hJ
   refine dY hJ 8 (.slice (sA v15) (sN v15) (sC v15)) (by kernel_rfl) (fun _=>by kernel_rfl) ?_; clear hJ a; intro a hJ
   refine wpList_nil ?_
   refine block_normal ?_
   refine lJ ?_
   refine wp_region_lit ?_
   refine dY hJ 28 (.int .i64 ((k:Int) + 1)) (by kernel_rfl) (fun w=>xX (by kernel_rfl) (jJ (by omega) (by omega))) ?_; clear hJ a; intro a hJ
   refine dY hJ 15 (.int .i64 ((k:Int) + 1)) (by kernel_rfl) (fun _=>by kernel_rfl) ?_; clear hJ a; intro a hJ
   refine wpList_nil ?_
   replace hJ:=hJ.drop 0
   exact lJ ⟨k + 1,⟨h16,.slice (sA v15) (sN v15) (sC v15),hJ.to (by kernel_rfl) (by rw [hns]; simp [pY]),(s6.trans (s13.trans s17)),by omega⟩,by omega⟩
 ·skip
  have htk:fs.take k=fs:=by rw [← hke,← hL,List.take_length]
  rw [htk] at hJ
  refine c_false hJ (t:=decide ((k:Int) < (len:Int))) (by kernel_rfl) (decide_eq_false (by omega)) ?_
  refine wp_exit ?_
  refine then_exit ?_
  refine then_exit ?_
  refine block_same ?_
  refine lJ ?_
  refine wp_seq ?_
  refine wp_seq ?_
  refine wp_region_lit ?_
  refine dY hJ 29 (v) (by kernel_rfl) (fun _=>by kernel_rfl) ?_; clear hJ a; intro a hJ
  obtain ⟨A2,c2,rfl,hc_v,hm_v⟩:=hJ.form (v:=v) (e:=9) (k:=1) (l:=pY (dW fs kind)) 0 (by kernel_rfl)
  rw [show (pY (dW fs kind)).length=(dW fs kind).length from by simp] at hJ hc_v
  obtain ⟨h18,s19,frs,hJn⟩:=hJ.frozen (v:=.slice A2 ((dW fs kind).length) c2) (e:=9) (k:=1) (l:=pY (dW fs kind)) 0 (by kernel_rfl) (hJ.out1 (v:=.slice A2 ((dW fs kind).length) c2) (e:=9) (k:=1) (l:=pY (dW fs kind)) (g:=g) (cs:=[sl,.int .i64 ((bJ l n:Nat):Int)]) 0 3 (by kernel_rfl) (by kernel_rfl) (by kernel_rfl) rfl); clear hJ; have hJ:=hJn; clear hJn
  refine dY hJ 30 (.int .i64 ((dW fs kind).length:Int)) (by kernel_rfl) (fun _=>by kernel_rfl) ?_; clear hJ a; intro a hJ
  refine dY hJ 31 (.bool (((dW fs kind).length:Int) == 0)) (by kernel_rfl) (fun _=>by kernel_rfl) ?_; clear hJ a; intro a hJ
  refine dY hJ 32 (.bool (((dW fs kind).length:Int) == 0)) (by kernel_rfl) (fun _=>by kernel_rfl) ?_; clear hJ a; intro a hJ
  rcases hnn:dW fs kind with _ | ⟨s0,ss⟩
  ·replace hJ:=hJ.rew 32 (v:=.bool (((dW fs kind).length:Int) == 0)) (v':=.bool true) ((by rw [hnn]; rfl)) (by kernel_rfl)
   replace hJ:=hJ.rew 31 (v:=.bool (((dW fs kind).length:Int) == 0)) (v':=.bool true) ((by rw [hnn]; rfl)) (by kernel_rfl)
   refine s_passed hJ 33 (by kernel_rfl) (by kernel_rfl) ?_; clear hJ a; intro a hJ
   refine s_passed hJ 34 (by kernel_rfl) (by kernel_rfl) ?_; clear hJ a; intro a hJ
   refine s_passed hJ 35 (by kernel_rfl) (by kernel_rfl) ?_; clear hJ a; intro a hJ
   refine s_passed hJ 36 (by kernel_rfl) (by kernel_rfl) ?_; clear hJ a; intro a hJ
   refine dY hJ 37 (.bool true) (by kernel_rfl) (fun _=>by kernel_rfl) ?_; clear hJ a; intro a hJ
   refine wpList_nil ?_
   refine lJ ?_
   refine c_true hJ (t:=true) (by kernel_rfl) rfl ?_
   refine wp_seq ?_
   refine wp_region_lit ?_
   refine dY hJ 38 (.int .i64 kind) (by kernel_rfl) (fun _=>by kernel_rfl) ?_; clear hJ a; intro a hJ
   refine aY hJ (t:=47) (x:=(.tmp 7)) 39 (.agg #[.int .i64 ((aJ l n).k),.int .i64 ((aJ l n).a),.int .i64 ((aJ l n).b),.string ((aJ l n).t)]) 0 (b:=b4) (off:=0) (cs:=[.int .i64 ((aJ l n).k),.int .i64 ((aJ l n).a),.int .i64 ((aJ l n).b),.string ((aJ l n).t)]) (by kernel_rfl) (by kernel_rfl) (by kernel_rfl) (by kernel_rfl) (by kernel_rfl) ?_; clear hJ a; intro a hJ
   refine s_call hJ 40 (hcon _ h1 h3 hro) (by kernel_rfl) (fun _=>by kernel_rfl) ?_; clear hJ a w; rintro _ h20 a w s21 rfl hJ
   refine eY hJ (t:=54) (x:=(.tmp 6)) (y:=(.tmp 40)) 1 (.agg #[.int .i64 ((iK kind (aJ l n)).op),.int .i64 ((iK kind (aJ l n)).k),.int .i64 ((iK kind (aJ l n)).n),.string ((iK kind (aJ l n)).s),.string ((iK kind (aJ l n)).nm),.slice none 0 0]) (b:=b1) (off:=0) (cs:=[.int .i64 0,.int .i64 0,.int .i64 0,.string ⟨#[]⟩,.string ⟨#[]⟩,.slice none 0 0]) [.int .i64 ((iK kind (aJ l n)).op),.int .i64 ((iK kind (aJ l n)).k),.int .i64 ((iK kind (aJ l n)).n),.string ((iK kind (aJ l n)).s),.string ((iK kind (aJ l n)).nm),.slice none 0 0] (by kernel_rfl) (by kernel_rfl) (by kernel_rfl) (by kernel_rfl) (by kernel_rfl) (by kernel_rfl) (by kernel_rfl) ?_; clear hJ w; intro w hJ
   refine wpList_nil ?_
   refine lJ ?_
   refine wp_ret ?_
   refine then_ret ?_
   refine (hQ [.agg #[.int .i64 ((iK kind (aJ l n)).op),.int .i64 ((iK kind (aJ l n)).k),.int .i64 ((iK kind (aJ l n)).n),.string ((iK kind (aJ l n)).s),.string ((iK kind (aJ l n)).nm),.slice none 0 0]] [.box b4 [.int .i64 ((aJ l n).k),.int .i64 ((aJ l n).a),.int .i64 ((aJ l n).b),.string ((aJ l n).t)],.box b1 [.int .i64 ((iK kind (aJ l n)).op),.int .i64 ((iK kind (aJ l n)).k),.int .i64 ((iK kind (aJ l n)).n),.string ((iK kind (aJ l n)).s),.string ((iK kind (aJ l n)).nm),.slice none 0 0]] [(g,[sl,.int .i64 ((bJ l n:Nat):Int)])] hJ (.rcell hJ 1 (b:=b1) (cs:=[.int .i64 ((iK kind (aJ l n)).op),.int .i64 ((iK kind (aJ l n)).k),.int .i64 ((iK kind (aJ l n)).n),.string ((iK kind (aJ l n)).s),.string ((iK kind (aJ l n)).nm),.slice none 0 0]) (by kernel_rfl) (by kernel_rfl) (by kernel_rfl) .nil) (by kernel_rfl) (by kernel_rfl) ?_).1
   have e:sV (aJ l n) fs kind=iK kind (aJ l n):=by unfold sV; rw [hnn]; rfl
   rw [e]
   exact ⟨_,rfl,rfl,rfl⟩
  ·skip
   have hpos:1≤(dW fs kind).length:=by rw [hnn]; simp
   have hz:((dW fs kind).length == 0)=false:=by rw [beq_eq_false_iff_ne]; omega
   obtain ⟨hk0,hk1⟩:=hro.1
   obtain ⟨hb0,hb1⟩:=hro.2.2.1
   have p0:=fX (aJ l n).b (dW fs kind).length (by omega)
   have p1:=eX (aJ l n).b (dW fs kind).length (by omega)
   have hpb':=fun h=>hpb h hb0 hb1 (by omega) (by omega)
   obtain ⟨j,hj⟩:∃ j:Nat,cJ (aJ l n).b (dW fs kind).length=(j:Int):=⟨_,(Int.toNat_of_nonneg p0).symm⟩
   rw [hj] at p1
   obtain ⟨s,hs⟩:∃ s,(dW fs kind)[j]?=some s:=⟨_,List.getElem?_eq_getElem (by omega)⟩
   have e:sV (aJ l n) fs kind=if cJ (aJ l n).k 4=0 then iK kind (aJ l n) else refE s:=by unfold sV; rw [hj,Int.toNat_natCast,hs]
   replace hJ:=hJ.rew 32 (v:=.bool (((dW fs kind).length:Int) == 0)) (v':=.bool false) (congrArg Value.bool (by rw [beq_eq_false_iff_ne]; omega)) (by kernel_rfl)
   refine s_guarded hJ (by kernel_rfl) ?_
   refine dY hJ 33 (.pointer (some ⟨b4,0,none⟩)) (by kernel_rfl) (fun _=>by kernel_rfl) ?_; clear hJ a; intro a hJ
   refine s_guarded hJ (by kernel_rfl) ?_
   refine aY hJ (t:=3) (x:=(.tmp 33)) 34 (.int .i64 ((aJ l n).k)) 0 (b:=b4) (off:=0) (cs:=[.int .i64 ((aJ l n).k),.int .i64 ((aJ l n).a),.int .i64 ((aJ l n).b),.string ((aJ l n).t)]) (by kernel_rfl) (by kernel_rfl) (by kernel_rfl) (by kernel_rfl) (by kernel_rfl) ?_; clear hJ a; intro a hJ
   refine s_guarded hJ (by kernel_rfl) ?_
   refine s_call hJ 35 (hpi _ hk0 hk1 (by omega) (by omega)) (by kernel_rfl) (fun _=>by kernel_rfl) ?_; clear hJ a w; rintro _ h22 a w s23 rfl hJ
   refine s_guarded hJ (by kernel_rfl) ?_
   refine dY hJ 36 (.bool ((cJ (aJ l n).k 4) == 0)) (by kernel_rfl) (fun _=>by kernel_rfl) ?_; clear hJ a; intro a hJ
   refine dY hJ 37 (.bool ((cJ (aJ l n).k 4) == 0)) (by kernel_rfl) (fun _=>by kernel_rfl) ?_; clear hJ a; intro a hJ
   refine wpList_nil ?_
   refine lJ ?_
   by_cases hq:cJ (aJ l n).k 4=0
   ·skip
    refine c_true hJ (t:=(cJ (aJ l n).k 4) == 0) (by kernel_rfl) (beq_iff_eq.2 hq) ?_
    refine wp_seq ?_
    refine wp_region_lit ?_
    refine dY hJ 38 (.int .i64 kind) (by kernel_rfl) (fun _=>by kernel_rfl) ?_; clear hJ a; intro a hJ
    refine aY hJ (t:=47) (x:=(.tmp 7)) 39 (.agg #[.int .i64 ((aJ l n).k),.int .i64 ((aJ l n).a),.int .i64 ((aJ l n).b),.string ((aJ l n).t)]) 0 (b:=b4) (off:=0) (cs:=[.int .i64 ((aJ l n).k),.int .i64 ((aJ l n).a),.int .i64 ((aJ l n).b),.string ((aJ l n).t)]) (by kernel_rfl) (by kernel_rfl) (by kernel_rfl) (by kernel_rfl) (by kernel_rfl) ?_; clear hJ a; intro a hJ
    refine s_call hJ 40 (hcon _ h1 h3 hro) (by kernel_rfl) (fun _=>by kernel_rfl) ?_; clear hJ a w; rintro _ h24 a w s25 rfl hJ
    refine eY hJ (t:=54) (x:=(.tmp 6)) (y:=(.tmp 40)) 1 (.agg #[.int .i64 ((iK kind (aJ l n)).op),.int .i64 ((iK kind (aJ l n)).k),.int .i64 ((iK kind (aJ l n)).n),.string ((iK kind (aJ l n)).s),.string ((iK kind (aJ l n)).nm),.slice none 0 0]) (b:=b1) (off:=0) (cs:=[.int .i64 0,.int .i64 0,.int .i64 0,.string ⟨#[]⟩,.string ⟨#[]⟩,.slice none 0 0]) [.int .i64 ((iK kind (aJ l n)).op),.int .i64 ((iK kind (aJ l n)).k),.int .i64 ((iK kind (aJ l n)).n),.string ((iK kind (aJ l n)).s),.string ((iK kind (aJ l n)).nm),.slice none 0 0] (by kernel_rfl) (by kernel_rfl) (by kernel_rfl) (by kernel_rfl) (by kernel_rfl) (by kernel_rfl) (by kernel_rfl) ?_; clear hJ w; intro w hJ
    refine wpList_nil ?_
    refine lJ ?_
    refine wp_ret ?_
    refine then_ret ?_
    refine (hQ [.agg #[.int .i64 ((iK kind (aJ l n)).op),.int .i64 ((iK kind (aJ l n)).k),.int .i64 ((iK kind (aJ l n)).n),.string ((iK kind (aJ l n)).s),.string ((iK kind (aJ l n)).nm),.slice none 0 0]] [.box b4 [.int .i64 ((aJ l n).k),.int .i64 ((aJ l n).a),.int .i64 ((aJ l n).b),.string ((aJ l n).t)],.box b1 [.int .i64 ((iK kind (aJ l n)).op),.int .i64 ((iK kind (aJ l n)).k),.int .i64 ((iK kind (aJ l n)).n),.string ((iK kind (aJ l n)).s),.string ((iK kind (aJ l n)).nm),.slice none 0 0]] [(g,[sl,.int .i64 ((bJ l n:Nat):Int)])] hJ (.rcell hJ 1 (b:=b1) (cs:=[.int .i64 ((iK kind (aJ l n)).op),.int .i64 ((iK kind (aJ l n)).k),.int .i64 ((iK kind (aJ l n)).n),.string ((iK kind (aJ l n)).s),.string ((iK kind (aJ l n)).nm),.slice none 0 0]) (by kernel_rfl) (by kernel_rfl) (by kernel_rfl) .nil) (by kernel_rfl) (by kernel_rfl) ?_).1
    rw [e,if_pos hq]
    exact ⟨_,rfl,rfl,rfl⟩
   ·skip
    rw [hj] at hpb'
    have hsi:(pY (dW fs kind))[j]?=some [.string s]:=by rw [List.getElem?_map,hs]; rfl
    refine c_false hJ (t:=(cJ (aJ l n).k 4) == 0) (by kernel_rfl) (beq_eq_false_iff_ne.2 hq) ?_
    refine wp_skip ?_
    refine lJ ?_
    refine wp_seq ?_
    refine wp_region_lit ?_
    refine dY hJ 41 (.slice A2 ((dW fs kind).length) c2) (by kernel_rfl) (fun _=>by kernel_rfl) ?_; clear hJ a; intro a hJ
    refine dY hJ 42 (.pointer (some ⟨b4,2,none⟩)) (by kernel_rfl) (fun _=>by kernel_rfl) ?_; clear hJ a; intro a hJ
    refine aY hJ (t:=3) (x:=(.tmp 42)) 43 (.int .i64 ((aJ l n).b)) 0 (b:=b4) (off:=2) (cs:=[.int .i64 ((aJ l n).k),.int .i64 ((aJ l n).a),.int .i64 ((aJ l n).b),.string ((aJ l n).t)]) (by kernel_rfl) (by kernel_rfl) (by kernel_rfl) (by kernel_rfl) (by kernel_rfl) ?_; clear hJ a; intro a hJ
    refine dY hJ 44 (.slice A2 ((dW fs kind).length) c2) (by kernel_rfl) (fun _=>by kernel_rfl) ?_; clear hJ a; intro a hJ
    refine dY hJ 45 (.int .i64 ((dW fs kind).length:Int)) (by kernel_rfl) (fun _=>by kernel_rfl) ?_; clear hJ a; intro a hJ
    refine s_call hJ 46 (hpb' _) (by kernel_rfl) (fun _=>by kernel_rfl) ?_; clear hJ a w; rintro _ h26 a w s27 rfl hJ
    refine s_index hJ 47 (t:=57) (e:=9) (x:=(.tmp 41)) (y:=(.tmp 46)) (A:=A2) (n:=((dW fs kind).length)) (cap:=c2) (i:=j) (kk:=1) (r:=[.string s]) (frs) (hsi) (by kernel_rfl) (by kernel_rfl) (by kernel_rfl) (by kernel_rfl) Tryz.underlying57 (by kernel_rfl) ?_; clear hJ a; intro b28 o29 a c30 hJ
    refine s_loadf hJ (t:=9) (x:=(.tmp 47)) 48 (.string s) (off:=0) c30 (s23.trans s27) (by kernel_rfl) (by kernel_rfl) (by kernel_rfl) (by kernel_rfl) ?_; clear hJ a; intro a hJ
    refine dY hJ 49 (.agg #[.int .i64 2,.int .i64 0,.int .i64 0,.string ⟨#[]⟩,.string s,.slice none 0 0]) (by kernel_rfl) (fun _=>by kernel_rfl) ?_; clear hJ a; intro a hJ
    refine eY hJ (t:=54) (x:=(.tmp 6)) (y:=(.tmp 49)) 1 (.agg #[.int .i64 2,.int .i64 0,.int .i64 0,.string ⟨#[]⟩,.string s,.slice none 0 0]) (b:=b1) (off:=0) (cs:=[.int .i64 0,.int .i64 0,.int .i64 0,.string ⟨#[]⟩,.string ⟨#[]⟩,.slice none 0 0]) [.int .i64 2,.int .i64 0,.int .i64 0,.string ⟨#[]⟩,.string s,.slice none 0 0] (by kernel_rfl) (by kernel_rfl) (by kernel_rfl) (by kernel_rfl) (by kernel_rfl) (by kernel_rfl) (by kernel_rfl) ?_; clear hJ w; intro w hJ
    refine wpList_nil ?_
    refine lJ ?_
    refine wp_ret ?_
    refine (hQ [.agg #[.int .i64 2,.int .i64 0,.int .i64 0,.string ⟨#[]⟩,.string s,.slice none 0 0]] [.box b4 [.int .i64 ((aJ l n).k),.int .i64 ((aJ l n).a),.int .i64 ((aJ l n).b),.string ((aJ l n).t)],.box b1 [.int .i64 2,.int .i64 0,.int .i64 0,.string ⟨#[]⟩,.string s,.slice none 0 0]] [(g,[sl,.int .i64 ((bJ l n:Nat):Int)])] hJ (.rcell hJ 1 (b:=b1) (cs:=[.int .i64 2,.int .i64 0,.int .i64 0,.string ⟨#[]⟩,.string s,.slice none 0 0]) (by kernel_rfl) (by kernel_rfl) (by kernel_rfl) .nil) (by kernel_rfl) (by kernel_rfl) ?_).1
    rw [e,if_neg hq]
    exact ⟨_,rfl,rfl,rfl⟩
end Go.Proofs.YtmoahpojchndiaaGreat
