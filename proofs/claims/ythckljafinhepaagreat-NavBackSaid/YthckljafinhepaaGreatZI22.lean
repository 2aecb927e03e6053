/-
  Contracts: eval's fault, truth, kinds; num's operations; value.Compare.
-/
import Derived.Test.YthckljafinhepaaGreatZI18
import Derived.Test.YthckljafinhepaaGreatZI20
import Derived.Test.YthckljafinhepaaGreatZI21
set_option maxRecDepth 100000
namespace Go.Proofs.YthckljafinhepaaGreat
open Go.RowKit
theorem C0.of_draws {k:FuncId} {args:Array Value} {v:Value} (hc:∀ w,Calls Tryz.prog k args w (Draws v w)) (h:Vw):C0 Tryz.prog k args h (fun v' _=>v'=v):=by
 intro _ _ _ _
 refine (hc h.w).mono ?_
 rintro e w' ⟨rfl,n,rfl⟩
 exact ⟨v,[],rfl,⟨rfl,rfl,rfl,Nat.le_refl _,fun _ _ _=>rfl⟩,(fun x hx=>by cases hx),rfl,rfl⟩
def numF (op:Int):Nat:=if op=5 then 136 else if op=6 then 137 else if op=7 then 138 else if op=8 then 139 else 140
theorem num_any (op a b:Int) (h:Vw) (ha:Lim a) (hb:Lim b):C0 Tryz.prog (numF op) #[.int .i64 a,.int .i64 b] h (fun v _=>v=.tuple #[.int .i64 (oV op a b).1,.int .i64 (oV op a b).2]):=by
 unfold numF oV
 by_cases h5:op=5
 ·rw [if_pos h5,if_pos h5]
  by_cases hl : -1099511627776≤a * b∧a * b≤1099511627776
  ·rw [if_pos hl]; exact C0.of_same (fun w=>mul_ok a b _ w ha hb hl rfl) h
  ·rw [if_neg hl]; exact C0.of_same (fun w=>mul_over a b w ha hb hl) h
 ·rw [if_neg h5,if_neg h5]
  by_cases h6:op=6
  ·rw [if_pos h6,if_pos h6]
   by_cases hz:b=0
   ·subst hz; rw [if_pos rfl]; exact C0.of_same (fun w=>div_zero a w ha) h
   ·rw [if_neg hz]; exact C0.of_draws (fun w=>div_ok a b w ha hb hz) h
  ·rw [if_neg h6,if_neg h6]
   by_cases h7:op=7
   ·rw [if_pos h7,if_pos h7]
    by_cases hz:b=0
    ·subst hz; rw [if_pos rfl]; exact C0.of_same (fun w=>mod_zero a w ha) h
    ·rw [if_neg hz]; exact C0.of_draws (fun w=>mod_ok a b w ha hb hz) h
   ·rw [if_neg h7,if_neg h7]
    by_cases h8:op=8
    ·rw [if_pos h8,if_pos h8]
     by_cases hl : -1099511627776≤a + b∧a + b≤1099511627776
     ·rw [if_pos hl]; exact C0.of_same (fun w=>add_ok a b w ha hb hl) h
     ·rw [if_neg hl]; exact C0.of_same (fun w=>add_over a b w ha hb (by omega)) h
    ·rw [if_neg h8,if_neg h8]
     by_cases hl : -1099511627776≤a - b∧a - b≤1099511627776
     ·rw [if_pos hl]; exact C0.of_same (fun w=>sub_ok a b w ha hb hl) h
     ·rw [if_neg hl]; exact C0.of_same (fun w=>sub_over a b w ha hb (by omega)) h
theorem yK (e:Int) (h:Vw):C0 Tryz.prog 109 #[.int .i64 e] h (fun v _=>v=(xK e).val):=by
 refine yX Tryz.func109 (c:=Tryz.f109.body.getD .skip) (N:=5) ?_
 intro hbx hbad Q hQ a w hJ
 refine rx' hJ false 13 [.own,.b 0 0] [] (.new fun b1=>.ok (.out .ret) [] [(2,Vp b1)] [.box b1 [Vi 5,Vi e,Ve]] []) (fun b1 _=>by kernel_rfl) ?_
 clear hJ a w; intro b1 a w hJ
 refine zX (hQ [.agg #[Vi 5,Vi e,Ve]] _ [] hJ (.rcel hJ.j 0 .nil) (fJ _) rfl ?_).1
 exact rfl
theorem qX (b:Bool) (h:Vw):C0 Tryz.prog 134 #[.bool b] h (fun v _=>v=(truthV b).val):=by
 cases b
 ·refine yX Tryz.func134 (c:=Tryz.f134.body.getD .skip) (N:=6) ?_
  intro hbx hbad Q hQ a w hJ
  refine rx' hJ false 21 [.own,.b 0 0] [] (.new fun b1=>.ok (.out .ret) [] [(2,Vp b1)] [.box b1 [Vi 2,Vi 0,Ve]] []) (fun b1 _=>by kernel_rfl) ?_
  clear hJ a w; intro b1 a w hJ
  refine zX (hQ [.agg #[Vi 2,Vi 0,Ve]] _ [] hJ (.rcel hJ.j 0 .nil) (fJ _) rfl ?_).1
  exact rfl
 ·refine yX Tryz.func134 (c:=Tryz.f134.body.getD .skip) (N:=6) ?_
  intro hbx hbad Q hQ a w hJ
  refine rx' hJ false 20 [.own,.b 0 0] [] (.new fun b1=>.ok (.out .ret) [] [(2,Vp b1)] [.box b1 [Vi 2,Vi 1,Ve]] []) (fun b1 _=>by kernel_rfl) ?_
  clear hJ a w; intro b1 a w hJ
  refine zX (hQ [.agg #[Vi 2,Vi 1,Ve]] _ [] hJ (.rcel hJ.j 0 .nil) (fJ _) rfl ?_).1
  exact rfl
abbrev vrows (l:List Vl):List (List Value):=l.map Vl.cells
theorem wQ (l:List Vl) (sl:Value) (kind:Int) (h:Vw) (hr:RS h 3 sl (vrows l)) (hl:l.length≤1000):C0 Tryz.prog 135 #[sl,.int .i64 kind] h (fun v _=>v=.bool (vQ l kind)):=by
 obtain ⟨A,cap,rfl,-,-,-⟩:=hr.form
 rw [List.length_map] at *
 generalize hL:l.length=len at *
 refine yX Tryz.func135 (c:=Tryz.f135.body.getD .skip) (N:=18) ?_
 intro hbx hbad Q hQ a w hJ
 refine rk' hJ false 14 [] [] (.k (.code [0,1,0,1]) [.block 0,.seq [1,1]] [1] [(7,.slice A len cap),(8,Vi (len:Int)),(9,Vi 0)]) ?_
 clear hJ a w; intro a w hJ
 refine eY (fun (k:Nat) a w=>∃ (h1:Vw) ,K ⟨18,h.w,h.bad,[]⟩ [(1,Vi kind),(7,.slice A len cap),(8,Vi (len:Int)),(9,Vi (k:Int))] [] [] h1 a w∧Sees h h1∧(k≤len)∧(∀ v∈l.take k,v.k=kind)) (fun k=>len - k) (0) ⟨h,hJ.tw,Sees.refl _,Nat.zero_le _,by simp⟩ ?_
 clear hJ a w; rintro k a w ⟨h1,hJ,s2,hk,ha⟩
 refine rk' hJ false 6 [] [] (.k (.code [0,1,0,0,1,0,1]) [.seq [1,1,0,0,1,0,1]] [1,7,8,9] [(10,.bool (decide ((k:Int) < (len:Int))))]) ?_
 clear hJ a w; intro a w hJ
 rcases (by omega:k < len∨len=k) with hlt | hke
 ·obtain ⟨y,hy⟩:∃ y,l[k]?=some y:=⟨_,List.getElem?_eq_getElem (by omega)⟩
  have hrow:(vrows l)[k]?=some y.cells:=by rw [List.getElem?_map,hy]; rfl
  refine kY hJ (t:=decide ((k:Int) < (len:Int))) (decide_eq_true (by omega)) ?_
  refine rk' hJ false 6 [] [] (.k (.ops [0,0,0,1,1,0,0,1,0,1] 0) [.seq [1,0,0,1,1,0,0,1,0,1],.block 1,.seq [1,1,1,0,0,1,0,1]] [1,7,8,9] []) ?_
  clear hJ a w; intro a w hJ
  obtain ⟨b3,o4,rfl,-,c5⟩:=RS.row hr (hrow)
  replace hJ:=hJ.fact (c5.sees s2)
  refine rk hJ false 14 [.ix b3 o4 len cap k,.f 0 0,.own,.b 0 0,.b 0 0] [] (.new fun b6=>.f (.code [1,1,0,0,1,1,0,0,1,0,1]) [.block 1,.seq [1,1,1,0,0,1,0,1]] [1,7,8,9] [(16,.bool (y.k != kind))] [.box b6 [Vi y.k,Vi y.n,.string y.s]] [.o 0]) (And.intro (by first | omega | (simp; omega)) (trivial)) trivial (fun b6 _=>by kernel_rfl) ?_
  clear hJ a w; intro b6 a w hJ
  by_cases hyk:y.k=kind
  ·skip
   refine aY hJ (t:=y.k != kind) (bne_eq_false_iff_eq.2 hyk) ?_
   refine rk' hJ false 7 [] [(17,Vi (IntKind.i64.wrap ((k:Int) + 1)),Vi ((k:Int) + 1))] (.k (.out .normal) [] [1,7,8] [(9,Vi ((k:Int) + 1))]) (hc:=And.intro (kJ (by omega) (by omega)) (trivial)) ?_
   clear hJ a w; intro a w hJ
   replace hJ:=hJ.drop 0
   exact jY ⟨k + 1,⟨h1,(hJ.tof [] (F':=[]) (by kernel_rfl)).to (by kernel_rfl) (by kernel_rfl) rfl,s2,by omega,by rw [pX l k y hy]; intro v hv; rcases List.mem_append.1 hv with g | g; exact ha v g; rw [List.mem_singleton.1 g]; exact hyk⟩,by omega⟩
  ·skip
   refine kY hJ (t:=y.k != kind) (bne_iff_ne.2 hyk) ?_
   refine rk' hJ false 8 [] [] (.k (.out .ret) [] [] [(4,.bool false)]) ?_
   clear hJ a w; intro a w hJ
   refine dY rfl ?_
   refine rk' hJ false 2 [] [] (.k (.out .ret) [] [4] []) ?_
   clear hJ a w; intro a w hJ
   refine zX (hQ [.bool false] _ [] hJ (.rtm hJ.j .nil) (fJ _) rfl ?_).1
   show Value.bool false=_
   have:vQ l kind=false:=by
    unfold vQ
    rw [List.all_eq_false]
    exact ⟨y,List.mem_of_getElem? hy,by simpa using hyk⟩
   rw [this]
 ·skip
  have hta:l.take k=l:=by rw [← hke,← hL,List.take_length]
  rw [hta] at ha
  refine aY hJ (t:=decide ((k:Int) < (len:Int))) (decide_eq_false (by omega)) ?_
  refine rx' hJ false 2 [] [] (.ok (.out (.exit 0)) [] [] [] []) (fun _=>by kernel_rfl) ?_
  clear hJ a w; intro a w hJ
  refine dY rfl ?_
  refine rx' hJ false 8 [] [] (.ok (.out .ret) [] [(4,.bool true)] [] []) (fun _=>by kernel_rfl) ?_
  clear hJ a w; intro a w hJ
  refine zX (hQ [.bool true] _ [] hJ (.rtm hJ.j .nil) (fJ _) rfl ?_).1
  show Value.bool true=_
  have:vQ l kind=true:=by
   unfold vQ
   rw [List.all_eq_true]
   intro v hv; simpa using ha v hv
  rw [this]
theorem compare_other (v w':Vl) (h:Vw) (hv:v.known) (hw:w'.known) (hne:v.k≠w'.k):C0 Tryz.prog 133 #[v.val,w'.val] h (fun r _=>r=.tuple #[.int .i64 0,.int .i64 9]):=by
 have h1:=c_known v.k v.n v.s
 have h2:=c_known w'.k w'.n w'.s
 refine yX Tryz.func133 (c:=Tryz.f133.body.getD .skip) (N:=33) ?_
 intro hbx hbad Q hQ a w hJ
 refine rx hJ false 37 [.own,.own,.b 1 0,.cl 42 #[.agg #[Vi v.k,Vi v.n,.string v.s]] (.bool true),.b 0 0,.cl 42 #[.agg #[Vi w'.k,Vi w'.n,.string w'.s]] (.bool true),.b 1 0,.b 0 0] [(19,.bool (v.k != w'.k),.bool true)] (.new fun b1=>.new fun b2=>.ok (.out .ret) [] [(4,Vi 0),(5,Vi 9)] [.box b2 [Vi w'.k,Vi w'.n,.string w'.s],.box b1 [Vi v.k,Vi v.n,.string v.s]] []) (And.intro (fun H sH=>h1 _ hv) (And.intro (fun H sH=>h2 _ hw) (trivial))) (And.intro (congrArg Value.bool (bne_iff_ne.2 hne)) (trivial)) (fun b1 b2 _=>by kernel_rfl) ?_
 clear hJ a w; intro b1 b2 a w hJ
 refine zX (hQ [Vi 0,Vi 9] _ [] hJ (.rtm hJ.j (.rtm hJ.j .nil)) (fJ _) rfl ?_).1
 exact rfl
theorem compare_any (v w':Vl) (h:Vw) (hv:v.known) (hw:w'.known):C0 Tryz.prog 133 #[v.val,w'.val] h (fun r _=>r=if v.k=w'.k then .tuple #[.int .i64 (cmpV v.n w'.n v.s.toList w'.s.toList),.int .i64 0] else .tuple #[.int .i64 0,.int .i64 9]):=by
 by_cases he:v.k=w'.k
 ·obtain ⟨k,n,s⟩:=v
  obtain ⟨k',n',s'⟩:=w'
  simp only at he
  subst he
  rw [if_pos rfl]
  exact C0.of_gives (fun w=>compare_known k n n' s s' w hv hw) h
 ·rw [if_neg he]; exact compare_other v w' h hv hw he
end Go.Proofs.YthckljafinhepaaGreat
