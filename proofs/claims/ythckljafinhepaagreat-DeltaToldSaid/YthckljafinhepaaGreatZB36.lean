/-
  Contract of rank.Of where all fields can be ranked; the laws' ranked; slices.Equal at ints.
-/
import Derived.Test.YthckljafinhepaaGreatZB31
import Derived.Test.YthckljafinhepaaGreatZB35
namespace Go.Proofs.YthckljafinhepaaGreat
open Go.RowKit
set_option linter.unusedVariables false

theorem ofc_any (x:Int) (h:Vw):C0 Tryz.prog 120 #[.int .i64 x] h (fun r _=>r=.bool (decide (x < 0))):=by
 refine x_con Tryz.func120 (c:=Tryz.f120.body.getD .skip) (by kernel_rfl) (N:=5) rfl (by kernel_rfl) ?_
 intro hbx hbad Q hQ a w hJ
 replace hJ:K ⟨5,h.w,h.bad,[]⟩ [(0,Vi x)] [] [] h a w:=hJ.to (by kernel_rfl) (by kernel_rfl) rfl
 refine rx hJ false 13 [] [] (.ok (.out .ret) [] [(2,.bool (decide (x < 0)))] [] []) trivial trivial (fun _=>by kernel_rfl) ?_
 clear hJ a w; intro a w hJ
 refine x_end (hQ [.bool (decide (x < 0))] _ [] hJ (.rtmp hJ.j (by kernel_rfl) .nil) (no_own _) rfl ?_).1
 exact rfl
theorem rk_row {l:List Int} {k:Nat} {x:Int} (h:l[k]?=some x):(rkRows l)[k]?=some [.int .i64 x]:=by show (l.map _)[k]?=_; rw [List.getElem?_map,h]; rfl

set_option maxRecDepth 100000 in
theorem idxI_any (l:List Int) (A:Option Addr) (cap:Nat) (h:Vw) (hr:RS h 1 (.slice A l.length cap) (rkRows l)) (hl:l.length≤1000000) (hn:∀ x∈l,0≤x) :
  C0 Tryz.prog 103 #[.slice A l.length cap,.func (.func 120) #[] #[]] h (fun r _=>r=.int .i64 (-1)):=by
 generalize hL:l.length=len at *
 refine x_con Tryz.func103 (c:=Tryz.f103.body.getD .skip) (by kernel_rfl) (N:=19) rfl (by kernel_rfl) ?_
 intro hbx hbad Q hQ a w hJ
 replace hJ:K ⟨19,h.w,h.bad,[]⟩ [(0,.slice A len cap),(1,.func (.func 120) #[] #[])] [] [] h a w:=hJ.to (by kernel_rfl) (by kernel_rfl) rfl
 refine rk hJ false 14 [] [] (.k (.code [0,1,0,1]) [.block 0,.seq [1,1]] [0,1] [(7,Vi (len:Int)),(8,Vi 0)]) trivial trivial (fun _=>by kernel_rfl) ?_
 clear hJ a w; intro a w hJ
 refine x_loop (fun (k:Nat) a w=>∃ (h1:Vw) ,K ⟨19,h.w,h.bad,[]⟩ [(0,.slice A len cap),(1,.func (.func 120) #[] #[]),(7,Vi (len:Int)),(8,Vi (k:Int))] [] [] h1 a w∧Sees h h1∧(k≤len)) (fun k=>len - k) (0) (by kernel_rfl) ⟨h,hJ.to (by kernel_rfl) (by kernel_rfl) rfl,Sees.refl _,Nat.zero_le _⟩ ?_
 clear hJ a w; rintro k a w ⟨h1,hJ,s2,hk⟩
 refine rk hJ false 6 [] [] (.k (.code [0,1,0,0,1,0,1]) [.seq [1,1,0,0,1,0,1]] [0,1,7,8] [(9,.bool (decide ((k:Int) < (len:Int))))]) trivial trivial (fun _=>by kernel_rfl) ?_
 clear hJ a w; intro a w hJ
 rcases (by omega:k < len∨k=len) with hlt | hke
 ·obtain ⟨x,hxk⟩:∃ x,l[k]?=some x:=⟨_,List.getElem?_eq_getElem (by omega)⟩
  have hrow:=rk_row hxk
  have hx0:=hn x (List.mem_of_getElem? hxk)
  have hof:=fun H=>ofc_any x H
  rw [show decide (x < 0)=false from decide_eq_false (by omega)] at hof
  refine x_true hJ (t:=decide ((k:Int) < (len:Int))) (by kernel_rfl) (decide_eq_true (by omega)) ?_
  refine rk hJ false 15 [] [] (.k (.ops [0,1,0,0,1,1,0,0,1,0,1] 3) [.seq [1,1,0,0,1,1,0,0,1,0,1],.block 1,.seq [1,1,1,0,0,1,0,1]] [0,1,7,8] [(5,Vi (k:Int)),(11,.func (.func 120) #[] #[]),(12,.slice A len cap),(13,Vi (k:Int))]) trivial trivial (fun _=>by kernel_rfl) ?_
  clear hJ a w; intro a w hJ
  obtain ⟨b3,o4,rfl,-,c5⟩:=RS.row hr (hrow)
  replace hJ:=hJ.fact (c5.sees s2)
  refine rk hJ false 13 [.ix b3 o4 len cap k,.f 0 0,.cl 120 #[Vi x] (.bool false)] [(18,Vi (IntKind.i64.wrap ((k:Int) + 1)),Vi ((k:Int) + 1))] (.k (.out .normal) [] [0,1,7] [(8,Vi ((k:Int) + 1))]) (And.intro (by first | omega | (simp; omega)) (And.intro (fun H sH=>hof _) (trivial))) (And.intro (i64_wrap (by omega) (by omega)) (trivial)) (fun _=>by kernel_rfl) ?_
  clear hJ a w; intro a w hJ
  exact x_round ⟨k + 1,⟨h1,(hJ.tof [] (F':=[]) (by kernel_rfl)).to (by kernel_rfl) (by kernel_rfl) rfl,s2,by omega⟩,by omega⟩
 ·skip
  refine x_false hJ (t:=decide ((k:Int) < (len:Int))) (by kernel_rfl) (decide_eq_false (by omega)) ?_
  refine rx hJ false 2 [] [] (.ok (.out (.exit 0)) [] [] [] []) trivial trivial (fun _=>by kernel_rfl) ?_
  clear hJ a w; intro a w hJ
  refine x_leave rfl ?_
  refine rx hJ false 8 [] [] (.ok (.out .ret) [] [(4,Vi (-1))] [] []) trivial trivial (fun _=>by kernel_rfl) ?_
  clear hJ a w; intro a w hJ
  refine x_end (hQ [Vi (-1)] _ [] hJ (.rtmp hJ.j (by kernel_rfl) .nil) (no_own _) rfl ?_).1
  exact rfl
theorem cfI_any (l:List Int) (A:Option Addr) (cap:Nat) (h:Vw) (hr:RS h 1 (.slice A l.length cap) (rkRows l)) (hl:l.length≤1000000) (hn:∀ x∈l,0≤x) :
  C0 Tryz.prog 78 #[.slice A l.length cap,.func (.func 120) #[] #[]] h (fun r _=>r=.bool false):=by
 have hi:=fun H q=>idxI_any l A cap H q hl hn
 refine x_con Tryz.func78 (c:=Tryz.f78.body.getD .skip) (by kernel_rfl) (N:=9) rfl (by kernel_rfl) ?_
 intro hbx hbad Q hQ a w hJ
 replace hJ:K ⟨9,h.w,h.bad,[]⟩ [(0,.slice A l.length cap),(1,.func (.func 120) #[] #[])] [] [] h a w:=hJ.to (by kernel_rfl) (by kernel_rfl) rfl
 refine rx hJ false 15 [.cl 103 #[.slice A l.length cap,.func (.func 120) #[] #[]] (Vi (-1))] [] (.ok (.out .ret) [] [(4,.bool false)] [] []) (And.intro (fun H sH=>hi _ (hr.sees sH)) (trivial)) trivial (fun _=>by kernel_rfl) ?_
 clear hJ a w; intro a w hJ
 refine x_end (hQ [.bool false] _ [] hJ (.rtmp hJ.j (by kernel_rfl) .nil) (no_own _) rfl ?_).1
 exact rfl

theorem mem_getD {l:List Int} {x:Int} (h:x∈l):∃ i,i < l.length∧x=l.getD i 0:=by
 obtain ⟨i,hi,e⟩:=List.mem_iff_getElem.1 h
 exact ⟨i,hi,by rw [List.getD_eq_getElem?_getD,List.getElem?_eq_getElem hi,e]; rfl⟩

set_option maxRecDepth 100000 in
theorem rankOf_any (fs:List Fd) (fv:Value) (h:Vw) (hok:OkFs fs) (hfs:IsFds h fv fs) (ρ:List Int) (lv:Nat→Nat) (hρ:Ranked (needsE fs) ρ lv) :
  C0 Tryz.prog 92 #[fv] h (fun r h'=>∃ b,r=.tuple #[.slice (some ⟨b,0,none⟩) fs.length fs.length,.slice none 0 0,.int .i64 0]∧RS h' 1 (.slice (some ⟨b,0,none⟩) fs.length fs.length) (rkRows ρ)):=by
 have few:=hok.few
 have hck:=fun H q=>check_fields fs fv H hok q
 have hne:=fun H q=>needs_any fs fv H hok q
 have hnl:(needsE fs).length=fs.length:=by unfold needsE; rw [List.length_map]
 have hb:∀ l∈needsE fs,l.length≤1000∧∀ k∈l,k < (needsE fs).length:=fun l hl=>by
  obtain ⟨i,hi⟩:=List.mem_iff_getElem?.1 hl
  have hil:=(List.getElem?_eq_some_iff.1 hi).1
  have hg:(needsE fs).getD i []=l:=by rw [List.getD_eq_getElem?_getD,hi]; rfl
  refine ⟨?_,fun k hk=>(hρ.low i hil k (by rw [hg]; exact hk)).1⟩
  obtain ⟨f,hf,rfl⟩:=List.mem_map.1 hl
  unfold needE
  split
  ·simp
  ·rename_i g
   obtain ⟨-,w2,-⟩:=(hok.each f hf).wf g
   have:=Nat.le_trans (namesE_len f.src) (refs_le f.src)
   rw [List.length_map]; omega
 have hrk:=fun A cap us H q1 q2=>ranks_any (needsE fs) A cap us H q1 q2 (by omega) hb
 rw [ranks_true hρ,hnl] at hrk
 have hρl:ρ.length=fs.length:=hρ.len.trans hnl
 have hnn:∀ x∈ρ,0≤x:=fun x hx=>by
  obtain ⟨i,hi,rfl⟩:=mem_getD hx
  exact rank_nn hρ (by have:=hρ.len; omega)
 have hcf:=fun b H q=>cfI_any ρ (some ⟨b,0,none⟩) fs.length H q (by omega) hnn
 rw [hρl] at hcf
 obtain ⟨-,A,c,rfl,-,-,-,-,-,-⟩:=fds_open hfs
 generalize needsE fs=need at *
 generalize hL:fs.length=len at *
 refine x_con Tryz.func92 (c:=Tryz.f92.body.getD .skip) (by kernel_rfl) (N:=42) rfl (by kernel_rfl) ?_
 intro hbx hbad Q hQ a w hJ
 replace hJ:K ⟨42,h.w,h.bad,[]⟩ [(0,.slice A len c)] [] [] h a w:=hJ.to (by kernel_rfl) (by kernel_rfl) rfl
 refine rk hJ false 27 [.cl 118 #[.slice A len c] (Vi 0)] [] (.k (.ops [0,1,1] 1) [.seq [1,1,1]] [0] [(16,.slice A len c)]) (And.intro (fun H sH=>hck _ (hfs.sees sH)) (trivial)) trivial (fun _=>by kernel_rfl) ?_
 clear hJ a w; intro a w hJ
 refine x_call hJ 17 (hne _ (hfs.sees hJ.j.sees)) (fun _=>by kernel_rfl) ?_; clear hJ a w; rintro _ h1 a w s2 ⟨An,cn,us,rfl,hrn,hna⟩ hJ
 refine rk hJ false 6 [] [] (.k (.ops [0,1,1,1] 1) [.seq [1,1,1,1]] [0] [(6,.slice An len cn),(18,.slice An len cn)]) trivial trivial (fun _=>by kernel_rfl) ?_
 clear hJ a w; intro a w hJ
 refine x_call hJ 19 (hrk _ _ us _ (hrn.sees hJ.j.sees) (hna.sees hJ.j.sees)) (fun _=>by kernel_rfl) ?_; clear hJ a w; rintro _ h3 a w s4 ⟨b,rfl,hro⟩ hJ
 refine rk hJ false 7 [] [] (.k (.ops [0,0,1,1,1,1] 1) [.seq [1,0,1,1,1,1],.seq [1,1,1,1,1]] [0,6] [(7,Vs b len len),(20,Vs b len len)]) trivial trivial (fun _=>by kernel_rfl) ?_
 clear hJ a w; intro a w hJ
 refine rx hJ false 15 [.cl 78 #[Vs b len len,.func (.func 120) #[] #[]] (.bool false)] [] (.ok (.out .ret) [] [(2,Vs b len len),(3,Vz),(4,Vi 0)] [] []) (And.intro (fun H sH=>hcf b _ (hro.sees sH)) (trivial)) trivial (fun _=>by kernel_rfl) ?_
 clear hJ a w; intro a w hJ
 refine x_end (hQ [Vs b len len,Vz,Vi 0] _ [] hJ (.rtmp hJ.j (by kernel_rfl) (.rtmp hJ.j (by kernel_rfl) (.rtmp hJ.j (by kernel_rfl) .nil))) (no_own _) rfl ?_).1
 exact ⟨b,rfl,(hro.sees hJ.j.out)⟩

end Go.Proofs.YthckljafinhepaaGreat
