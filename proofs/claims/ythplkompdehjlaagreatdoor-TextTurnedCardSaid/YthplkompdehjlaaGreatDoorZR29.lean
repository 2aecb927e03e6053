/-
  Contracts of package lex, fifth part: strings.HasPrefix, one.
-/
import Derived.Test.YthplkompdehjlaaGreatDoorZR28
import Derived.Lib.Strings
import Derived.Lib.Slices
import Derived.Lib.Walk
namespace Go.Proofs.YthplkompdehjlaaGreatDoor
open Go.RowKit
set_option maxHeartbeats 1000000 in
theorem cV (s p:ByteArray) (w:World) :
  Calls Tryz.prog 18 #[.string s,.string p] w fun e w'=>e=.returned (.bool (p.data.toList.isPrefixOf s.data.toList))∧w=w':=by
 show Calls Tryz.prog 18 #[.string s,.string p] w fun e w'=>e=.returned (.bool (Lib.hasPrefix s.data.toList p.data.toList))∧w=w'
 rw [← Lib.hasPrefix_of_take,← Lib.size_eq,← Lib.size_eq]
 go_enter Tryz.func18,Tryz.ntmps18
 go_wp2
 ·rename_i h
  go_ret
  refine ⟨?_,rfl⟩
  show Ending.returned (Value.bool ((s.extract 0 p.size).toList == p.toList))=_
  rw [Lib.extract_toList,Lib.toList_data]
  simp [h]
 ·rename_i h
  go_ret
  refine ⟨?_,rfl⟩
  show Ending.returned (Value.bool false)=_
  simp [h]
section
variable {l:List UInt8} {c:UInt8}
theorem oneF_num (h:l.head?=some c) (d:fV c=true):aW l=wV l:=by
 cases l with
 | nil=>simp at h
 | cons x r=>simp at h; subst h; simp [aW,d]
theorem oneF_long (h:l.head?=some c) (d:fV c=false) (e:gV c=true) (g:10 < xX iV l):aW l=.err 1:=by
 cases l with
 | nil=>simp at h
 | cons x r=>simp at h; subst h; simp [aW,d,e,g]
theorem oneF_word (h:l.head?=some c) (d:fV c=false) (e:gV c=true) (g:¬ 10 < xX iV l):aW l=.tok ⟨2,l.take (xX iV l),0,0,[]⟩:=by
 cases l with
 | nil=>simp at h
 | cons x r=>simp at h; subst h; simp only [aW,d,e,g,if_false,if_true,Bool.false_eq_true]
theorem oneF_quote (h:l.head?=some c) (d:fV c=false) (e:gV c=false) (g:c=34):aW l=dX l:=by
 cases l with
 | nil=>simp at h
 | cons x r =>
  simp at h; subst h
  show (if fV x=true then _ else if gV x=true then _ else if x=34 then _ else _)=_
  rw [if_neg (by rw [d]; simp),if_neg (by rw [e]; simp),if_pos g]
theorem oneF_sign (h:l.head?=some c) (d:fV c=false) (e:gV c=false) (g:c≠34):aW l=signF l:=by
 cases l with
 | nil=>simp at h
 | cons x r=>simp at h; subst h; simp only [aW,d,e,g,if_false,Bool.false_eq_true]
end
theorem signF_err {l:List UInt8} (h:∀ g∈signs,g.isPrefixOf l=false):signF l=.err 3:=by
 unfold signF
 rw [List.find?_eq_none.2 (fun g hg=>by rw [h g hg]; simp)]
theorem find_first {α:Type} (p:α→Bool):∀ (a b:List α) (x:α),(∀ y∈a,p y=false)→p x=true→(a++x :: b).find? p=some x
 | [],b,x,_,h=>by simp [h]
 | y :: a,b,x,ha,h=>by
  rw [List.cons_append,List.find?_cons,ha y (by simp)]
  exact find_first p a b x (fun z hz=>ha z (by simp [hz])) h
theorem vX {l:List UInt8} (a b:List (List UInt8)) (g:List UInt8) (e:signs=a++g :: b) (h:∀ x∈a,x.isPrefixOf l=false) (hg:g.isPrefixOf l=true):signF l=.tok ⟨4,g,0,0,[]⟩:=by
 unfold signF
 rw [e,find_first _ a b g h hg]
set_option maxRecDepth 100000 in
set_option maxHeartbeats 8000000 in
theorem one_any (s:ByteArray) (w:World) (h0:0 < s.size) (hs:s.size≤160) :
  Calls Tryz.prog 59 #[.string s] w (Gives (dW (aW s.data.toList)) w):=by
 have hd:s.data.toList.head?=some s[0]:=by rw [List.head?_eq_getElem?]; exact vJ s 0 h0
 have ET:=fun n=>Lib.hid (ext_take s n)
 have ET':=Lib.hid ET
 clear ET
 obtain ⟨L,hLL⟩:∃ L,s.data.toList=L:=⟨_,rfl⟩
 have HLL:=Lib.hid hLL
 have HD:=Lib.hid hd
 rw [hLL]
 rw [hLL] at hd
 have bz:=Box.new w #[.int .i64 0,.int .i64 0,.string ⟨#[]⟩,.int .i64 0,.int .i64 0,.string ⟨#[]⟩] 117
 have bw:=(Below.refl w.heap.size w).alloc (Nat.le_refl _) (.cells #[.int .i64 0,.int .i64 0,.string ⟨#[]⟩,.int .i64 0,.int .i64 0,.string ⟨#[]⟩] 117)
 have START:=Lib.hid (And.intro bz bw)
 have hnum:=fun W=>number_any s W h0 hs
 have hquo:=fun W=>quote_any s W h0 hs
 have hspn:=fun w=>span_any 89 iV s w (by omega) (fun _ _=>by rfl) (fun c w=>word_any c w)
 have hspl:=spanN_le iV L
 have hdg:=digit_any s[0]
 have hlt:=letter_any s[0]
 have hLn:L.length=s.size:=by rw [← hLL]; simp
 rw [hLn] at hspl
 rw [hLL] at hnum hquo hspn
 have HLT:=Lib.hid hlt
 have HQ:=Lib.hid hquo
 have HSP:=Lib.hid hspn
 clear bz bw hLL hquo hspn hlt hLn
 cases hd1:fV s[0] with
 | true =>
  have he:=oneF_num hd hd1
  have HE:=Lib.hid he
  rw [hd1] at hdg
  have HDG:=Lib.hid hdg
  clear hdg hd1 he hd
  cases hn:wV L with
  | tok t =>
   simp only [hn,dW] at hnum
   have HN:=Lib.hid hnum
   have HNN:=Lib.hid hn
   clear hnum hn
   go_enter Tryz.func59,Tryz.ntmps59
   go_wp2_with fail
   with_reducible refine (HDG.out _).mono ?_
   rintro e w' ⟨rfl,rfl⟩
   go_wp2_with fail
   with_reducible refine (HN.out _).mono ?_
   rintro e u1 ⟨rfl,hb⟩
   have hz:=START.out.1.keep hb
   have hw:=bthen START.out.2 hb
   clear hb START
   have z0:=hz.cells 0 _ rfl
   have z1:=hz.cells 1 _ rfl
   have z2:=hz.cells 2 _ rfl
   have z3:=hz.cells 3 _ rfl
   have z4:=hz.cells 4 _ rfl
   have z5:=hz.cells 5 _ rfl
   have f0:=hz.free 0
   have f1:=hz.free 1
   have f2:=hz.free 2
   have f3:=hz.free 3
   have f4:=hz.free 4
   have f5:=hz.free 5
   go_wp2_with fail
   refine bodyPost_ret (v:=dW (.tok t)) (by simp [results,Tryz.results59,go_sem,dW,z0,z1,z2,z3,z4,z5]) rfl (zQ (by rw [HE.out,HNN.out]) ?_)
   repeat (first | with_reducible refine Below.drew ?_ | with_reducible refine Below.setCell ?_ (by first | (simp; done) | (simp; omega)) _)
   exact hw
  | err e =>
   simp only [hn,dW] at hnum
   have HN:=Lib.hid hnum
   have HNN:=Lib.hid hn
   clear hnum hn
   go_enter Tryz.func59,Tryz.ntmps59
   go_wp2_with fail
   with_reducible refine (HDG.out _).mono ?_
   rintro e w' ⟨rfl,rfl⟩
   go_wp2_with fail
   with_reducible refine (HN.out _).mono ?_
   rintro e u1 ⟨rfl,hb⟩
   have hz:=START.out.1.keep hb
   have hw:=bthen START.out.2 hb
   clear hb START
   have z0:=hz.cells 0 _ rfl
   have z1:=hz.cells 1 _ rfl
   have z2:=hz.cells 2 _ rfl
   have z3:=hz.cells 3 _ rfl
   have z4:=hz.cells 4 _ rfl
   have z5:=hz.cells 5 _ rfl
   have f0:=hz.free 0
   have f1:=hz.free 1
   have f2:=hz.free 2
   have f3:=hz.free 3
   have f4:=hz.free 4
   have f5:=hz.free 5
   go_wp2_with fail
   refine bodyPost_ret (v:=dW (.err e)) (by simp [results,Tryz.results59,go_sem,dW,z0,z1,z2,z3,z4,z5]) rfl (zQ (by rw [HE.out,HNN.out]) ?_)
   repeat (first | with_reducible refine Below.drew ?_ | with_reducible refine Below.setCell ?_ (by first | (simp; done) | (simp; omega)) _)
   exact hw
 | false =>
  rw [hd1] at hdg
  have HDG:=Lib.hid hdg
  clear hnum hdg
  cases hl1:gV s[0] with
  | true =>
   have HLT2:=Lib.hid (by have h:=HLT.out; rw [hl1] at h; exact h)
   have hsl := @oneF_long L s[0] hd hd1 hl1
   have hsw := @oneF_word L s[0] hd hd1 hl1
   clear HLT hd hd1 hl1
   generalize xX iV L=n at *
   by_cases c1:10 < n
   ·have HE:=Lib.hid (hsl c1)
    have c1':(10:Int) < (n:Int):=by omega
    clear hsl hsw c1
    go_enter Tryz.func59,Tryz.ntmps59
    go_wp2_with fail
    with_reducible refine (HDG.out _).mono ?_
    rintro e w' ⟨rfl,rfl⟩
    go_wp2_with fail
    with_reducible refine (HLT2.out _).mono ?_
    rintro e w' ⟨rfl,rfl⟩
    go_wp2_with fail
    with_reducible refine (HSP.out _).mono ?_
    rintro e w' ⟨rfl,rfl⟩
    go_wp2_with fail
    exact bodyPost_ret (v:=dW (.err 1)) (by simp [results,Tryz.results59,go_sem,dW]) rfl (zQ (by rw [HE.out]) ((Below.refl _ _).alloc (Nat.le_refl _) _))
   ·have HE:=Lib.hid (hsw c1)
    have c1':(n:Int)≤10:=by omega
    clear hsl hsw c1
    go_enter Tryz.func59,Tryz.ntmps59
    go_wp2_with fail
    with_reducible refine (HDG.out _).mono ?_
    rintro e w' ⟨rfl,rfl⟩
    go_wp2_with fail
    with_reducible refine (HLT2.out _).mono ?_
    rintro e w' ⟨rfl,rfl⟩
    go_wp2_with fail
    with_reducible refine (HSP.out _).mono ?_
    rintro e w' ⟨rfl,rfl⟩
    go_wp2_with fail
    exact bodyPost_ret (v:=dW (.tok ⟨2,L.take n,0,0,[]⟩)) (by simp [results,Tryz.results59,go_sem,dW,(ET'.out n).out,HLL.out]) rfl (zQ (by rw [HE.out]) ((Below.refl _ _).alloc (Nat.le_refl _) _))
  | false =>
   have HLT2:=Lib.hid (by have h:=HLT.out; rw [hl1] at h; exact h)
   by_cases c1:s[0]=34
   ·have he:=oneF_quote hd hd1 hl1 c1
    have HE:=Lib.hid he
    have e1:((s[0].toNat:Int) == 34)=true:=by rw [c1]; rfl
    clear he hd hd1 hl1 HLT c1 HSP
    have hquo:=HQ.out
    cases hn:dX L with
    | tok t =>
     simp only [hn,dW] at hquo
     have HN:=Lib.hid hquo
     have HNN:=Lib.hid hn
     clear hquo hn HQ
     go_enter Tryz.func59,Tryz.ntmps59
     go_wp2_with fail
     with_reducible refine (HDG.out _).mono ?_
     rintro e w' ⟨rfl,rfl⟩
     go_wp2_with fail
     with_reducible refine (HLT2.out _).mono ?_
     rintro e w' ⟨rfl,rfl⟩
     go_wp2_with fail
     with_reducible refine (HN.out _).mono ?_
     rintro e u1 ⟨rfl,hb⟩
     have hz:=START.out.1.keep hb
     have hw:=bthen START.out.2 hb
     clear hb START
     have z0:=hz.cells 0 _ rfl
     have z1:=hz.cells 1 _ rfl
     have z2:=hz.cells 2 _ rfl
     have z3:=hz.cells 3 _ rfl
     have z4:=hz.cells 4 _ rfl
     have z5:=hz.cells 5 _ rfl
     have f0:=hz.free 0
     have f1:=hz.free 1
     have f2:=hz.free 2
     have f3:=hz.free 3
     have f4:=hz.free 4
     have f5:=hz.free 5
     go_wp2_with fail
     refine bodyPost_ret (v:=dW (.tok t)) (by simp [results,Tryz.results59,go_sem,dW,z0,z1,z2,z3,z4,z5]) rfl (zQ (by rw [HE.out,HNN.out]) ?_)
     repeat (first | with_reducible refine Below.drew ?_ | with_reducible refine Below.setCell ?_ (by first | (simp; done) | (simp; omega)) _)
     exact hw
    | err e =>
     simp only [hn,dW] at hquo
     have HN:=Lib.hid hquo
     have HNN:=Lib.hid hn
     clear hquo hn HQ
     go_enter Tryz.func59,Tryz.ntmps59
     go_wp2_with fail
     with_reducible refine (HDG.out _).mono ?_
     rintro e w' ⟨rfl,rfl⟩
     go_wp2_with fail
     with_reducible refine (HLT2.out _).mono ?_
     rintro e w' ⟨rfl,rfl⟩
     go_wp2_with fail
     with_reducible refine (HN.out _).mono ?_
     rintro e u1 ⟨rfl,hb⟩
     have hz:=START.out.1.keep hb
     have hw:=bthen START.out.2 hb
     clear hb START
     have z0:=hz.cells 0 _ rfl
     have z1:=hz.cells 1 _ rfl
     have z2:=hz.cells 2 _ rfl
     have z3:=hz.cells 3 _ rfl
     have z4:=hz.cells 4 _ rfl
     have z5:=hz.cells 5 _ rfl
     have f0:=hz.free 0
     have f1:=hz.free 1
     have f2:=hz.free 2
     have f3:=hz.free 3
     have f4:=hz.free 4
     have f5:=hz.free 5
     go_wp2_with fail
     refine bodyPost_ret (v:=dW (.err e)) (by simp [results,Tryz.results59,go_sem,dW,z0,z1,z2,z3,z4,z5]) rfl (zQ (by rw [HE.out,HNN.out]) ?_)
     repeat (first | with_reducible refine Below.drew ?_ | with_reducible refine Below.setCell ?_ (by first | (simp; done) | (simp; omega)) _)
     exact hw
   ·have he:=oneF_sign hd hd1 hl1 c1
    have HE:=Lib.hid he
    have e1:((s[0].toNat:Int) == 34)=false:=beq_eq_false_iff_ne.2 fun e=>c1 (UInt8.toNat_inj.1 (by show _=34; omega))
    clear he hd hd1 hl1 HLT c1 HSP HQ
    go_enter Tryz.func59,Tryz.ntmps59
    go_wp2_with fail
    with_reducible refine (HDG.out _).mono ?_
    rintro e w' ⟨rfl,rfl⟩
    go_wp2_with fail
    with_reducible refine (HLT2.out _).mono ?_
    rintro e w' ⟨rfl,rfl⟩
    go_wp2_with fail
    go_loopw [37] (fun i wr=>∃ k:Int,0≤k∧k≤13∧i=.int .i64 k∧(∀ g∈signs.take k.toNat,g.isPrefixOf L=false)∧Box wr w.heap.size [.int .i64 0,.int .i64 0,.string ⟨#[]⟩,.int .i64 0,.int .i64 0,.string ⟨#[]⟩]∧Below w.heap.size w wr) (fun i _=>13 - (intOf i).toNat)
    case atStart=>exact ⟨0,by omega,by omega,rfl,by simp,START.out.1,START.out.2⟩
    case round =>
     clear START
     obtain ⟨k,hk0,hk,rfl,hno,hz,hw⟩:=hrel
     by_cases hlt:k < 13
     ·obtain rfl | rfl | rfl | rfl | rfl | rfl | rfl | rfl | rfl | rfl | rfl | rfl | rfl:k=0∨k=1∨k=2∨k=3∨k=4∨k=5∨k=6∨k=7∨k=8∨k=9∨k=10∨k=11∨k=12:=by omega
      ·have hix:∀ w:World,(Instr.index 147 (.agg #[.string ⟨#[60,61]⟩,.string ⟨#[33,61]⟩,.string ⟨#[60]⟩,.string ⟨#[61]⟩,.string ⟨#[43]⟩,.string ⟨#[45]⟩,.string ⟨#[42]⟩,.string ⟨#[47]⟩,.string ⟨#[37]⟩,.string ⟨#[38]⟩,.string ⟨#[40]⟩,.string ⟨#[41]⟩,.string ⟨#[44]⟩]) (.int .i64 0)).run Tryz.prog w=.ok (.string ⟨#[60,61]⟩) w:=fun _=>by kernel_rfl
       have hpx:=fun W=>cV s ⟨#[60,61]⟩ W
       have hpe:(⟨#[60,61]⟩:ByteArray).data.toList=[60,61]:=rfl
       rw [hpe,HLL.out] at hpx
       cases hp:List.isPrefixOf [60,61] L with
       | true =>
        have HE2:=Lib.hid (vX (l:=L) [] [[33,61],[60],[61],[43],[45],[42],[47],[37],[38],[40],[41],[44]] [60,61] rfl hno hp)
        rw [hp] at hpx
        have HP:=Lib.hid hpx
        clear hpx hpe hp hno
        go_wp2_with fail
        with_reducible refine (HP.out _).mono ?_
        rintro e w' ⟨rfl,rfl⟩
        have z0:=hz.cells 0 _ rfl
        have z1:=hz.cells 1 _ rfl
        have z2:=hz.cells 2 _ rfl
        have z3:=hz.cells 3 _ rfl
        have z4:=hz.cells 4 _ rfl
        have z5:=hz.cells 5 _ rfl
        have f0:=hz.free 0
        have f1:=hz.free 1
        have f2:=hz.free 2
        have f3:=hz.free 3
        have f4:=hz.free 4
        have f5:=hz.free 5
        go_wp2_with fail
        refine bodyPost_ret (v:=dW (.tok ⟨4,[60,61],0,0,[]⟩)) (by simp [results,Tryz.results59,go_sem,dW,z0,z1,z2,z3,z4,z5]) rfl (zQ (by rw [HE.out,HE2.out]) ?_)
        repeat (first | with_reducible refine Below.drew ?_ | with_reducible refine Below.setCell ?_ (by first | (simp; done) | (simp; omega)) _)
        exact hw
       | false =>
        have HNO:=Lib.hid (show ∀ g∈signs.take 1,g.isPrefixOf L=false from fun g hg=>by
         have h2:g∈signs.take 0++[[60,61]]:=hg
         rcases List.mem_append.1 h2 with h2 | h2
         ·exact hno g h2
         ·simp only [List.mem_singleton] at h2; rw [h2]; exact hp)
        rw [hp] at hpx
        have HP:=Lib.hid hpx
        clear hpx hpe hp hno
        go_wp2_with fail
        with_reducible refine (HP.out _).mono ?_
        rintro e w' ⟨rfl,rfl⟩
        go_wp2_with fail
        go_roundw
        case rel=>exact ⟨1,by omega,by omega,rfl,HNO.out,hz,hw⟩
        case measure=>simp [intOf]
      ·have hix:∀ w:World,(Instr.index 147 (.agg #[.string ⟨#[60,61]⟩,.string ⟨#[33,61]⟩,.string ⟨#[60]⟩,.string ⟨#[61]⟩,.string ⟨#[43]⟩,.string ⟨#[45]⟩,.string ⟨#[42]⟩,.string ⟨#[47]⟩,.string ⟨#[37]⟩,.string ⟨#[38]⟩,.string ⟨#[40]⟩,.string ⟨#[41]⟩,.string ⟨#[44]⟩]) (.int .i64 1)).run Tryz.prog w=.ok (.string ⟨#[33,61]⟩) w:=fun _=>by kernel_rfl
       have hpx:=fun W=>cV s ⟨#[33,61]⟩ W
       have hpe:(⟨#[33,61]⟩:ByteArray).data.toList=[33,61]:=rfl
       rw [hpe,HLL.out] at hpx
       cases hp:List.isPrefixOf [33,61] L with
       | true =>
        have HE2:=Lib.hid (vX (l:=L) [[60,61]] [[60],[61],[43],[45],[42],[47],[37],[38],[40],[41],[44]] [33,61] rfl hno hp)
        rw [hp] at hpx
        have HP:=Lib.hid hpx
        clear hpx hpe hp hno
        go_wp2_with fail
        with_reducible refine (HP.out _).mono ?_
        rintro e w' ⟨rfl,rfl⟩
        have z0:=hz.cells 0 _ rfl
        have z1:=hz.cells 1 _ rfl
        have z2:=hz.cells 2 _ rfl
        have z3:=hz.cells 3 _ rfl
        have z4:=hz.cells 4 _ rfl
        have z5:=hz.cells 5 _ rfl
        have f0:=hz.free 0
        have f1:=hz.free 1
        have f2:=hz.free 2
        have f3:=hz.free 3
        have f4:=hz.free 4
        have f5:=hz.free 5
        go_wp2_with fail
        refine bodyPost_ret (v:=dW (.tok ⟨4,[33,61],0,0,[]⟩)) (by simp [results,Tryz.results59,go_sem,dW,z0,z1,z2,z3,z4,z5]) rfl (zQ (by rw [HE.out,HE2.out]) ?_)
        repeat (first | with_reducible refine Below.drew ?_ | with_reducible refine Below.setCell ?_ (by first | (simp; done) | (simp; omega)) _)
        exact hw
       | false =>
        have HNO:=Lib.hid (show ∀ g∈signs.take 2,g.isPrefixOf L=false from fun g hg=>by
         have h2:g∈signs.take 1++[[33,61]]:=hg
         rcases List.mem_append.1 h2 with h2 | h2
         ·exact hno g h2
         ·simp only [List.mem_singleton] at h2; rw [h2]; exact hp)
        rw [hp] at hpx
        have HP:=Lib.hid hpx
        clear hpx hpe hp hno
        go_wp2_with fail
        with_reducible refine (HP.out _).mono ?_
        rintro e w' ⟨rfl,rfl⟩
        go_wp2_with fail
        go_roundw
        case rel=>exact ⟨2,by omega,by omega,rfl,HNO.out,hz,hw⟩
        case measure=>simp [intOf]
      ·have hix:∀ w:World,(Instr.index 147 (.agg #[.string ⟨#[60,61]⟩,.string ⟨#[33,61]⟩,.string ⟨#[60]⟩,.string ⟨#[61]⟩,.string ⟨#[43]⟩,.string ⟨#[45]⟩,.string ⟨#[42]⟩,.string ⟨#[47]⟩,.string ⟨#[37]⟩,.string ⟨#[38]⟩,.string ⟨#[40]⟩,.string ⟨#[41]⟩,.string ⟨#[44]⟩]) (.int .i64 2)).run Tryz.prog w=.ok (.string ⟨#[60]⟩) w:=fun _=>by kernel_rfl
       have hpx:=fun W=>cV s ⟨#[60]⟩ W
       have hpe:(⟨#[60]⟩:ByteArray).data.toList=[60]:=rfl
       rw [hpe,HLL.out] at hpx
       cases hp:List.isPrefixOf [60] L with
       | true =>
        have HE2:=Lib.hid (vX (l:=L) [[60,61],[33,61]] [[61],[43],[45],[42],[47],[37],[38],[40],[41],[44]] [60] rfl hno hp)
        rw [hp] at hpx
        have HP:=Lib.hid hpx
        clear hpx hpe hp hno
        go_wp2_with fail
        with_reducible refine (HP.out _).mono ?_
        rintro e w' ⟨rfl,rfl⟩
        have z0:=hz.cells 0 _ rfl
        have z1:=hz.cells 1 _ rfl
        have z2:=hz.cells 2 _ rfl
        have z3:=hz.cells 3 _ rfl
        have z4:=hz.cells 4 _ rfl
        have z5:=hz.cells 5 _ rfl
        have f0:=hz.free 0
        have f1:=hz.free 1
        have f2:=hz.free 2
        have f3:=hz.free 3
        have f4:=hz.free 4
        have f5:=hz.free 5
        go_wp2_with fail
        refine bodyPost_ret (v:=dW (.tok ⟨4,[60],0,0,[]⟩)) (by simp [results,Tryz.results59,go_sem,dW,z0,z1,z2,z3,z4,z5]) rfl (zQ (by rw [HE.out,HE2.out]) ?_)
        repeat (first | with_reducible refine Below.drew ?_ | with_reducible refine Below.setCell ?_ (by first | (simp; done) | (simp; omega)) _)
        exact hw
       | false =>
        have HNO:=Lib.hid (show ∀ g∈signs.take 3,g.isPrefixOf L=false from fun g hg=>by
         have h2:g∈signs.take 2++[[60]]:=hg
         rcases List.mem_append.1 h2 with h2 | h2
         ·exact hno g h2
         ·simp only [List.mem_singleton] at h2; rw [h2]; exact hp)
        rw [hp] at hpx
        have HP:=Lib.hid hpx
        clear hpx hpe hp hno
        go_wp2_with fail
        with_reducible refine (HP.out _).mono ?_
        rintro e w' ⟨rfl,rfl⟩
        go_wp2_with fail
        go_roundw
        case rel=>exact ⟨3,by omega,by omega,rfl,HNO.out,hz,hw⟩
        case measure=>simp [intOf]
      ·have hix:∀ w:World,(Instr.index 147 (.agg #[.string ⟨#[60,61]⟩,.string ⟨#[33,61]⟩,.string ⟨#[60]⟩,.string ⟨#[61]⟩,.string ⟨#[43]⟩,.string ⟨#[45]⟩,.string ⟨#[42]⟩,.string ⟨#[47]⟩,.string ⟨#[37]⟩,.string ⟨#[38]⟩,.string ⟨#[40]⟩,.string ⟨#[41]⟩,.string ⟨#[44]⟩]) (.int .i64 3)).run Tryz.prog w=.ok (.string ⟨#[61]⟩) w:=fun _=>by kernel_rfl
       have hpx:=fun W=>cV s ⟨#[61]⟩ W
       have hpe:(⟨#[61]⟩:ByteArray).data.toList=[61]:=rfl
       rw [hpe,HLL.out] at hpx
       cases hp:List.isPrefixOf [61] L with
       | true =>
        have HE2:=Lib.hid (vX (l:=L) [[60,61],[33,61],[60]] [[43],[45],[42],[47],[37],[38],[40],[41],[44]] [61] rfl hno hp)
        rw [hp] at hpx
        have HP:=Lib.hid hpx
        clear hpx hpe hp hno
        go_wp2_with fail
        with_reducible refine (HP.out _).mono ?_
        rintro e w' ⟨rfl,rfl⟩
        have z0:=hz.cells 0 _ rfl
        have z1:=hz.cells 1 _ rfl
        have z2:=hz.cells 2 _ rfl
        have z3:=hz.cells 3 _ rfl
        have z4:=hz.cells 4 _ rfl
        have z5:=hz.cells 5 _ rfl
        have f0:=hz.free 0
        have f1:=hz.free 1
        have f2:=hz.free 2
        have f3:=hz.free 3
        have f4:=hz.free 4
        have f5:=hz.free 5
        go_wp2_with fail
        refine bodyPost_ret (v:=dW (.tok ⟨4,[61],0,0,[]⟩)) (by simp [results,Tryz.results59,go_sem,dW,z0,z1,z2,z3,z4,z5]) rfl (zQ (by rw [HE.out,HE2.out]) ?_)
        repeat (first | with_reducible refine Below.drew ?_ | with_reducible refine Below.setCell ?_ (by first | (simp; done) | (simp; omega)) _)
        exact hw
       | false =>
        have HNO:=Lib.hid (show ∀ g∈signs.take 4,g.isPrefixOf L=false from fun g hg=>by
         have h2:g∈signs.take 3++[[61]]:=hg
         rcases List.mem_append.1 h2 with h2 | h2
         ·exact hno g h2
         ·simp only [List.mem_singleton] at h2; rw [h2]; exact hp)
        rw [hp] at hpx
        have HP:=Lib.hid hpx
        clear hpx hpe hp hno
        go_wp2_with fail
        with_reducible refine (HP.out _).mono ?_
        rintro e w' ⟨rfl,rfl⟩
        go_wp2_with fail
        go_roundw
        case rel=>exact ⟨4,by omega,by omega,rfl,HNO.out,hz,hw⟩
        case measure=>simp [intOf]
      ·have hix:∀ w:World,(Instr.index 147 (.agg #[.string ⟨#[60,61]⟩,.string ⟨#[33,61]⟩,.string ⟨#[60]⟩,.string ⟨#[61]⟩,.string ⟨#[43]⟩,.string ⟨#[45]⟩,.string ⟨#[42]⟩,.string ⟨#[47]⟩,.string ⟨#[37]⟩,.string ⟨#[38]⟩,.string ⟨#[40]⟩,.string ⟨#[41]⟩,.string ⟨#[44]⟩]) (.int .i64 4)).run Tryz.prog w=.ok (.string ⟨#[43]⟩) w:=fun _=>by kernel_rfl
       have hpx:=fun W=>cV s ⟨#[43]⟩ W
       have hpe:(⟨#[43]⟩:ByteArray).data.toList=[43]:=rfl
       rw [hpe,HLL.out] at hpx
       cases hp:List.isPrefixOf [43] L with
       | true =>
        have HE2:=Lib.hid (vX (l:=L) [[60,61],[33,61],[60],[61]] [[45],[42],[47],[37],[38],[40],[41],[44]] [43] rfl hno hp)
        rw [hp] at hpx
        have HP:=Lib.hid hpx
        clear hpx hpe hp hno
        go_wp2_with fail
        with_reducible refine (HP.out _).mono ?_
        rintro e w' ⟨rfl,rfl⟩
        have z0:=hz.cells 0 _ rfl
        have z1:=hz.cells 1 _ rfl
        have z2:=hz.cells 2 _ rfl
        have z3:=hz.cells 3 _ rfl
        have z4:=hz.cells 4 _ rfl
        have z5:=hz.cells 5 _ rfl
        have f0:=hz.free 0
        have f1:=hz.free 1
        have f2:=hz.free 2
        have f3:=hz.free 3
        have f4:=hz.free 4
        have f5:=hz.free 5
        go_wp2_with fail
        refine bodyPost_ret (v:=dW (.tok ⟨4,[43],0,0,[]⟩)) (by simp [results,Tryz.results59,go_sem,dW,z0,z1,z2,z3,z4,z5]) rfl (zQ (by rw [HE.out,HE2.out]) ?_)
        repeat (first | with_reducible refine Below.drew ?_ | with_reducible refine Below.setCell ?_ (by first | (simp; done) | (simp; omega)) _)
        exact hw
       | false =>
        have HNO:=Lib.hid (show ∀ g∈signs.take 5,g.isPrefixOf L=false from fun g hg=>by
         have h2:g∈signs.take 4++[[43]]:=hg
         rcases List.mem_append.1 h2 with h2 | h2
         ·exact hno g h2
         ·simp only [List.mem_singleton] at h2; rw [h2]; exact hp)
        rw [hp] at hpx
        have HP:=Lib.hid hpx
        clear hpx hpe hp hno
        go_wp2_with fail
        with_reducible refine (HP.out _).mono ?_
        rintro e w' ⟨rfl,rfl⟩
        go_wp2_with fail
        go_roundw
        case rel=>exact ⟨5,by omega,by omega,rfl,HNO.out,hz,hw⟩
        case measure=>simp [intOf]
      ·have hix:∀ w:World,(Instr.index 147 (.agg #[.string ⟨#[60,61]⟩,.string ⟨#[33,61]⟩,.string ⟨#[60]⟩,.string ⟨#[61]⟩,.string ⟨#[43]⟩,.string ⟨#[45]⟩,.string ⟨#[42]⟩,.string ⟨#[47]⟩,.string ⟨#[37]⟩,.string ⟨#[38]⟩,.string ⟨#[40]⟩,.string ⟨#[41]⟩,.string ⟨#[44]⟩]) (.int .i64 5)).run Tryz.prog w=.ok (.string ⟨#[45]⟩) w:=fun _=>by kernel_rfl
       have hpx:=fun W=>cV s ⟨#[45]⟩ W
       have hpe:(⟨#[45]⟩:ByteArray).data.toList=[45]:=rfl
       rw [hpe,HLL.out] at hpx
       cases hp:List.isPrefixOf [45] L with
       | true =>
        have HE2:=Lib.hid (vX (l:=L) [[60,61],[33,61],[60],[61],[43]] [[42],[47],[37],[38],[40],[41],[44]] [45] rfl hno hp)
        rw [hp] at hpx
        have HP:=Lib.hid hpx
        clear hpx hpe hp hno
        go_wp2_with fail
        with_reducible refine (HP.out _).mono ?_
        rintro e w' ⟨rfl,rfl⟩
        have z0:=hz.cells 0 _ rfl
        have z1:=hz.cells 1 _ rfl
        have z2:=hz.cells 2 _ rfl
        have z3:=hz.cells 3 _ rfl
        have z4:=hz.cells 4 _ rfl
        have z5:=hz.cells 5 _ rfl
        have f0:=hz.free 0
        have f1:=hz.free 1
        have f2:=hz.free 2
        have f3:=hz.free 3
        have f4:=hz.free 4
        have f5:=hz.free 5
        go_wp2_with fail
        refine bodyPost_ret (v:=dW (.tok ⟨4,[45],0,0,[]⟩)) (by simp [results,Tryz.results59,go_sem,dW,z0,z1,z2,z3,z4,z5]) rfl (zQ (by rw [HE.out,HE2.out]) ?_)
        repeat (first | with_reducible refine Below.drew ?_ | with_reducible refine Below.setCell ?_ (by first | (simp; done) | (simp; omega)) _)
        exact hw
       | false =>
        have HNO:=Lib.hid (show ∀ g∈signs.take 6,g.isPrefixOf L=false from fun g hg=>by
         have h2:g∈signs.take 5++[[45]]:=hg
         rcases List.mem_append.1 h2 with h2 | h2
         ·exact hno g h2
         ·simp only [List.mem_singleton] at h2; rw [h2]; exact hp)
        rw [hp] at hpx
        have HP:=Lib.hid hpx
        clear hpx hpe hp hno
        go_wp2_with fail
        with_reducible refine (HP.out _).mono ?_
        rintro e w' ⟨rfl,rfl⟩
        go_wp2_with fail
        go_roundw
        case rel=>exact ⟨6,by omega,by omega,rfl,HNO.out,hz,hw⟩
        case measure=>simp [intOf]
      ·have hix:∀ w:World,(Instr.index 147 (.agg #[.string ⟨#[60,61]⟩,.string ⟨#[33,61]⟩,.string ⟨#[60]⟩,.string ⟨#[61]⟩,.string ⟨#[43]⟩,.string ⟨#[45]⟩,.string ⟨#[42]⟩,.string ⟨#[47]⟩,.string ⟨#[37]⟩,.string ⟨#[38]⟩,.string ⟨#[40]⟩,.string ⟨#[41]⟩,.string ⟨#[44]⟩]) (.int .i64 6)).run Tryz.prog w=.ok (.string ⟨#[42]⟩) w:=fun _=>by kernel_rfl
       have hpx:=fun W=>cV s ⟨#[42]⟩ W
       have hpe:(⟨#[42]⟩:ByteArray).data.toList=[42]:=rfl
       rw [hpe,HLL.out] at hpx
       cases hp:List.isPrefixOf [42] L with
       | true =>
        have HE2:=Lib.hid (vX (l:=L) [[60,61],[33,61],[60],[61],[43],[45]] [[47],[37],[38],[40],[41],[44]] [42] rfl hno hp)
        rw [hp] at hpx
        have HP:=Lib.hid hpx
        clear hpx hpe hp hno
        go_wp2_with fail
        with_reducible refine (HP.out _).mono ?_
        rintro e w' ⟨rfl,rfl⟩
        have z0:=hz.cells 0 _ rfl
        have z1:=hz.cells 1 _ rfl
        have z2:=hz.cells 2 _ rfl
        have z3:=hz.cells 3 _ rfl
        have z4:=hz.cells 4 _ rfl
        have z5:=hz.cells 5 _ rfl
        have f0:=hz.free 0
        have f1:=hz.free 1
        have f2:=hz.free 2
        have f3:=hz.free 3
        have f4:=hz.free 4
        have f5:=hz.free 5
        go_wp2_with fail
        refine bodyPost_ret (v:=dW (.tok ⟨4,[42],0,0,[]⟩)) (by simp [results,Tryz.results59,go_sem,dW,z0,z1,z2,z3,z4,z5]) rfl (zQ (by rw [HE.out,HE2.out]) ?_)
        repeat (first | with_reducible refine Below.drew ?_ | with_reducible refine Below.setCell ?_ (by first | (simp; done) | (simp; omega)) _)
        exact hw
       | false =>
        have HNO:=Lib.hid (show ∀ g∈signs.take 7,g.isPrefixOf L=false from fun g hg=>by
         have h2:g∈signs.take 6++[[42]]:=hg
         rcases List.mem_append.1 h2 with h2 | h2
         ·exact hno g h2
         ·simp only [List.mem_singleton] at h2; rw [h2]; exact hp)
        rw [hp] at hpx
        have HP:=Lib.hid hpx
        clear hpx hpe hp hno
        go_wp2_with fail
        with_reducible refine (HP.out _).mono ?_
        rintro e w' ⟨rfl,rfl⟩
        go_wp2_with fail
        go_roundw
        case rel=>exact ⟨7,by omega,by omega,rfl,HNO.out,hz,hw⟩
        case measure=>simp [intOf]
      ·have hix:∀ w:World,(Instr.index 147 (.agg #[.string ⟨#[60,61]⟩,.string ⟨#[33,61]⟩,.string ⟨#[60]⟩,.string ⟨#[61]⟩,.string ⟨#[43]⟩,.string ⟨#[45]⟩,.string ⟨#[42]⟩,.string ⟨#[47]⟩,.string ⟨#[37]⟩,.string ⟨#[38]⟩,.string ⟨#[40]⟩,.string ⟨#[41]⟩,.string ⟨#[44]⟩]) (.int .i64 7)).run Tryz.prog w=.ok (.string ⟨#[47]⟩) w:=fun _=>by kernel_rfl
       have hpx:=fun W=>cV s ⟨#[47]⟩ W
       have hpe:(⟨#[47]⟩:ByteArray).data.toList=[47]:=rfl
       rw [hpe,HLL.out] at hpx
       cases hp:List.isPrefixOf [47] L with
       | true =>
        have HE2:=Lib.hid (vX (l:=L) [[60,61],[33,61],[60],[61],[43],[45],[42]] [[37],[38],[40],[41],[44]] [47] rfl hno hp)
        rw [hp] at hpx
        have HP:=Lib.hid hpx
        clear hpx hpe hp hno
        go_wp2_with fail
        with_reducible refine (HP.out _).mono ?_
        rintro e w' ⟨rfl,rfl⟩
        have z0:=hz.cells 0 _ rfl
        have z1:=hz.cells 1 _ rfl
        have z2:=hz.cells 2 _ rfl
        have z3:=hz.cells 3 _ rfl
        have z4:=hz.cells 4 _ rfl
        have z5:=hz.cells 5 _ rfl
        have f0:=hz.free 0
        have f1:=hz.free 1
        have f2:=hz.free 2
        have f3:=hz.free 3
        have f4:=hz.free 4
        have f5:=hz.free 5
        go_wp2_with fail
        refine bodyPost_ret (v:=dW (.tok ⟨4,[47],0,0,[]⟩)) (by simp [results,Tryz.results59,go_sem,dW,z0,z1,z2,z3,z4,z5]) rfl (zQ (by rw [HE.out,HE2.out]) ?_)
        repeat (first | with_reducible refine Below.drew ?_ | with_reducible refine Below.setCell ?_ (by first | (simp; done) | (simp; omega)) _)
        exact hw
       | false =>
        have HNO:=Lib.hid (show ∀ g∈signs.take 8,g.isPrefixOf L=false from fun g hg=>by
         have h2:g∈signs.take 7++[[47]]:=hg
         rcases List.mem_append.1 h2 with h2 | h2
         ·exact hno g h2
         ·simp only [List.mem_singleton] at h2; rw [h2]; exact hp)
        rw [hp] at hpx
        have HP:=Lib.hid hpx
        clear hpx hpe hp hno
        go_wp2_with fail
        with_reducible refine (HP.out _).mono ?_
        rintro e w' ⟨rfl,rfl⟩
        go_wp2_with fail
        go_roundw
        case rel=>exact ⟨8,by omega,by omega,rfl,HNO.out,hz,hw⟩
        case measure=>simp [intOf]
      ·have hix:∀ w:World,(Instr.index 147 (.agg #[.string ⟨#[60,61]⟩,.string ⟨#[33,61]⟩,.string ⟨#[60]⟩,.string ⟨#[61]⟩,.string ⟨#[43]⟩,.string ⟨#[45]⟩,.string ⟨#[42]⟩,.string ⟨#[47]⟩,.string ⟨#[37]⟩,.string ⟨#[38]⟩,.string ⟨#[40]⟩,.string ⟨#[41]⟩,.string ⟨#[44]⟩]) (.int .i64 8)).run Tryz.prog w=.ok (.string ⟨#[37]⟩) w:=fun _=>by kernel_rfl
       have hpx:=fun W=>cV s ⟨#[37]⟩ W
       have hpe:(⟨#[37]⟩:ByteArray).data.toList=[37]:=rfl
       rw [hpe,HLL.out] at hpx
       cases hp:List.isPrefixOf [37] L with
       | true =>
        have HE2:=Lib.hid (vX (l:=L) [[60,61],[33,61],[60],[61],[43],[45],[42],[47]] [[38],[40],[41],[44]] [37] rfl hno hp)
        rw [hp] at hpx
        have HP:=Lib.hid hpx
        clear hpx hpe hp hno
        go_wp2_with fail
        with_reducible refine (HP.out _).mono ?_
        rintro e w' ⟨rfl,rfl⟩
        have z0:=hz.cells 0 _ rfl
        have z1:=hz.cells 1 _ rfl
        have z2:=hz.cells 2 _ rfl
        have z3:=hz.cells 3 _ rfl
        have z4:=hz.cells 4 _ rfl
        have z5:=hz.cells 5 _ rfl
        have f0:=hz.free 0
        have f1:=hz.free 1
        have f2:=hz.free 2
        have f3:=hz.free 3
        have f4:=hz.free 4
        have f5:=hz.free 5
        go_wp2_with fail
        refine bodyPost_ret (v:=dW (.tok ⟨4,[37],0,0,[]⟩)) (by simp [results,Tryz.results59,go_sem,dW,z0,z1,z2,z3,z4,z5]) rfl (zQ (by rw [HE.out,HE2.out]) ?_)
        repeat (first | with_reducible refine Below.drew ?_ | with_reducible refine Below.setCell ?_ (by first | (simp; done) | (simp; omega)) _)
        exact hw
       | false =>
        have HNO:=Lib.hid (show ∀ g∈signs.take 9,g.isPrefixOf L=false from fun g hg=>by
         have h2:g∈signs.take 8++[[37]]:=hg
         rcases List.mem_append.1 h2 with h2 | h2
         ·exact hno g h2
         ·simp only [List.mem_singleton] at h2; rw [h2]; exact hp)
        rw [hp] at hpx
        have HP:=Lib.hid hpx
        clear hpx hpe hp hno
        go_wp2_with fail
        with_reducible refine (HP.out _).mono ?_
        rintro e w' ⟨rfl,rfl⟩
        go_wp2_with fail
        go_roundw
        case rel=>exact ⟨9,by omega,by omega,rfl,HNO.out,hz,hw⟩
        case measure=>simp [intOf]
      ·have hix:∀ w:World,(Instr.index 147 (.agg #[.string ⟨#[60,61]⟩,.string ⟨#[33,61]⟩,.string ⟨#[60]⟩,.string ⟨#[61]⟩,.string ⟨#[43]⟩,.string ⟨#[45]⟩,.string ⟨#[42]⟩,.string ⟨#[47]⟩,.string ⟨#[37]⟩,.string ⟨#[38]⟩,.string ⟨#[40]⟩,.string ⟨#[41]⟩,.string ⟨#[44]⟩]) (.int .i64 9)).run Tryz.prog w=.ok (.string ⟨#[38]⟩) w:=fun _=>by kernel_rfl
       have hpx:=fun W=>cV s ⟨#[38]⟩ W
       have hpe:(⟨#[38]⟩:ByteArray).data.toList=[38]:=rfl
       rw [hpe,HLL.out] at hpx
       cases hp:List.isPrefixOf [38] L with
       | true =>
        have HE2:=Lib.hid (vX (l:=L) [[60,61],[33,61],[60],[61],[43],[45],[42],[47],[37]] [[40],[41],[44]] [38] rfl hno hp)
        rw [hp] at hpx
        have HP:=Lib.hid hpx
        clear hpx hpe hp hno
        go_wp2_with fail
        with_reducible refine (HP.out _).mono ?_
        rintro e w' ⟨rfl,rfl⟩
        have z0:=hz.cells 0 _ rfl
        have z1:=hz.cells 1 _ rfl
        have z2:=hz.cells 2 _ rfl
        have z3:=hz.cells 3 _ rfl
        have z4:=hz.cells 4 _ rfl
        have z5:=hz.cells 5 _ rfl
        have f0:=hz.free 0
        have f1:=hz.free 1
        have f2:=hz.free 2
        have f3:=hz.free 3
        have f4:=hz.free 4
        have f5:=hz.free 5
        go_wp2_with fail
        refine bodyPost_ret (v:=dW (.tok ⟨4,[38],0,0,[]⟩)) (by simp [results,Tryz.results59,go_sem,dW,z0,z1,z2,z3,z4,z5]) rfl (zQ (by rw [HE.out,HE2.out]) ?_)
        repeat (first | with_reducible refine Below.drew ?_ | with_reducible refine Below.setCell ?_ (by first | (simp; done) | (simp; omega)) _)
        exact hw
       | false =>
        have HNO:=Lib.hid (show ∀ g∈signs.take 10,g.isPrefixOf L=false from fun g hg=>by
         have h2:g∈signs.take 9++[[38]]:=hg
         rcases List.mem_append.1 h2 with h2 | h2
         ·exact hno g h2
         ·simp only [List.mem_singleton] at h2; rw [h2]; exact hp)
        rw [hp] at hpx
        have HP:=Lib.hid hpx
        clear hpx hpe hp hno
        go_wp2_with fail
        with_reducible refine (HP.out _).mono ?_
        rintro e w' ⟨rfl,rfl⟩
        go_wp2_with fail
        go_roundw
        case rel=>exact ⟨10,by omega,by omega,rfl,HNO.out,hz,hw⟩
        case measure=>simp [intOf]
      ·have hix:∀ w:World,(Instr.index 147 (.agg #[.string ⟨#[60,61]⟩,.string ⟨#[33,61]⟩,.string ⟨#[60]⟩,.string ⟨#[61]⟩,.string ⟨#[43]⟩,.string ⟨#[45]⟩,.string ⟨#[42]⟩,.string ⟨#[47]⟩,.string ⟨#[37]⟩,.string ⟨#[38]⟩,.string ⟨#[40]⟩,.string ⟨#[41]⟩,.string ⟨#[44]⟩]) (.int .i64 10)).run Tryz.prog w=.ok (.string ⟨#[40]⟩) w:=fun _=>by kernel_rfl
       have hpx:=fun W=>cV s ⟨#[40]⟩ W
       have hpe:(⟨#[40]⟩:ByteArray).data.toList=[40]:=rfl
       rw [hpe,HLL.out] at hpx
       cases hp:List.isPrefixOf [40] L with
       | true =>
        have HE2:=Lib.hid (vX (l:=L) [[60,61],[33,61],[60],[61],[43],[45],[42],[47],[37],[38]] [[41],[44]] [40] rfl hno hp)
        rw [hp] at hpx
        have HP:=Lib.hid hpx
        clear hpx hpe hp hno
        go_wp2_with fail
        with_reducible refine (HP.out _).mono ?_
        rintro e w' ⟨rfl,rfl⟩
        have z0:=hz.cells 0 _ rfl
        have z1:=hz.cells 1 _ rfl
        have z2:=hz.cells 2 _ rfl
        have z3:=hz.cells 3 _ rfl
        have z4:=hz.cells 4 _ rfl
        have z5:=hz.cells 5 _ rfl
        have f0:=hz.free 0
        have f1:=hz.free 1
        have f2:=hz.free 2
        have f3:=hz.free 3
        have f4:=hz.free 4
        have f5:=hz.free 5
        go_wp2_with fail
        refine bodyPost_ret (v:=dW (.tok ⟨4,[40],0,0,[]⟩)) (by simp [results,Tryz.results59,go_sem,dW,z0,z1,z2,z3,z4,z5]) rfl (zQ (by rw [HE.out,HE2.out]) ?_)
        repeat (first | with_reducible refine Below.drew ?_ | with_reducible refine Below.setCell ?_ (by first | (simp; done) | (simp; omega)) _)
        exact hw
       | false =>
        have HNO:=Lib.hid (show ∀ g∈signs.take 11,g.isPrefixOf L=false from fun g hg=>by
         have h2:g∈signs.take 10++[[40]]:=hg
         rcases List.mem_append.1 h2 with h2 | h2
         ·exact hno g h2
         ·simp only [List.mem_singleton] at h2; rw [h2]; exact hp)
        rw [hp] at hpx
        have HP:=Lib.hid hpx
        clear hpx hpe hp hno
        go_wp2_with fail
        with_reducible refine (HP.out _).mono ?_
        rintro e w' ⟨rfl,rfl⟩
        go_wp2_with fail
        go_roundw
        case rel=>exact ⟨11,by omega,by omega,rfl,HNO.out,hz,hw⟩
        case measure=>simp [intOf]
      ·have hix:∀ w:World,(Instr.index 147 (.agg #[.string ⟨#[60,61]⟩,.string ⟨#[33,61]⟩,.string ⟨#[60]⟩,.string ⟨#[61]⟩,.string ⟨#[43]⟩,.string ⟨#[45]⟩,.string ⟨#[42]⟩,.string ⟨#[47]⟩,.string ⟨#[37]⟩,.string ⟨#[38]⟩,.string ⟨#[40]⟩,.string ⟨#[41]⟩,.string ⟨#[44]⟩]) (.int .i64 11)).run Tryz.prog w=.ok (.string ⟨#[41]⟩) w:=fun _=>by kernel_rfl
       have hpx:=fun W=>cV s ⟨#[41]⟩ W
       have hpe:(⟨#[41]⟩:ByteArray).data.toList=[41]:=rfl
       rw [hpe,HLL.out] at hpx
       cases hp:List.isPrefixOf [41] L with
       | true =>
        have HE2:=Lib.hid (vX (l:=L) [[60,61],[33,61],[60],[61],[43],[45],[42],[47],[37],[38],[40]] [[44]] [41] rfl hno hp)
        rw [hp] at hpx
        have HP:=Lib.hid hpx
        clear hpx hpe hp hno
        go_wp2_with fail
        with_reducible refine (HP.out _).mono ?_
        rintro e w' ⟨rfl,rfl⟩
        have z0:=hz.cells 0 _ rfl
        have z1:=hz.cells 1 _ rfl
        have z2:=hz.cells 2 _ rfl
        have z3:=hz.cells 3 _ rfl
        have z4:=hz.cells 4 _ rfl
        have z5:=hz.cells 5 _ rfl
        have f0:=hz.free 0
        have f1:=hz.free 1
        have f2:=hz.free 2
        have f3:=hz.free 3
        have f4:=hz.free 4
        have f5:=hz.free 5
        go_wp2_with fail
        refine bodyPost_ret (v:=dW (.tok ⟨4,[41],0,0,[]⟩)) (by simp [results,Tryz.results59,go_sem,dW,z0,z1,z2,z3,z4,z5]) rfl (zQ (by rw [HE.out,HE2.out]) ?_)
        repeat (first | with_reducible refine Below.drew ?_ | with_reducible refine Below.setCell ?_ (by first | (simp; done) | (simp; omega)) _)
        exact hw
       | false =>
        have HNO:=Lib.hid (show ∀ g∈signs.take 12,g.isPrefixOf L=false from fun g hg=>by
         have h2:g∈signs.take 11++[[41]]:=hg
         rcases List.mem_append.1 h2 with h2 | h2
         ·exact hno g h2
         ·simp only [List.mem_singleton] at h2; rw [h2]; exact hp)
        rw [hp] at hpx
        have HP:=Lib.hid hpx
        clear hpx hpe hp hno
        go_wp2_with fail
        with_reducible refine (HP.out _).mono ?_
        rintro e w' ⟨rfl,rfl⟩
        go_wp2_with fail
        go_roundw
        case rel=>exact ⟨12,by omega,by omega,rfl,HNO.out,hz,hw⟩
        case measure=>simp [intOf]
      ·have hix:∀ w:World,(Instr.index 147 (.agg #[.string ⟨#[60,61]⟩,.string ⟨#[33,61]⟩,.string ⟨#[60]⟩,.string ⟨#[61]⟩,.string ⟨#[43]⟩,.string ⟨#[45]⟩,.string ⟨#[42]⟩,.string ⟨#[47]⟩,.string ⟨#[37]⟩,.string ⟨#[38]⟩,.string ⟨#[40]⟩,.string ⟨#[41]⟩,.string ⟨#[44]⟩]) (.int .i64 12)).run Tryz.prog w=.ok (.string ⟨#[44]⟩) w:=fun _=>by kernel_rfl
       have hpx:=fun W=>cV s ⟨#[44]⟩ W
       have hpe:(⟨#[44]⟩:ByteArray).data.toList=[44]:=rfl
       rw [hpe,HLL.out] at hpx
       cases hp:List.isPrefixOf [44] L with
       | true =>
        have HE2:=Lib.hid (vX (l:=L) [[60,61],[33,61],[60],[61],[43],[45],[42],[47],[37],[38],[40],[41]] [] [44] rfl hno hp)
        rw [hp] at hpx
        have HP:=Lib.hid hpx
        clear hpx hpe hp hno
        go_wp2_with fail
        with_reducible refine (HP.out _).mono ?_
        rintro e w' ⟨rfl,rfl⟩
        have z0:=hz.cells 0 _ rfl
        have z1:=hz.cells 1 _ rfl
        have z2:=hz.cells 2 _ rfl
        have z3:=hz.cells 3 _ rfl
        have z4:=hz.cells 4 _ rfl
        have z5:=hz.cells 5 _ rfl
        have f0:=hz.free 0
        have f1:=hz.free 1
        have f2:=hz.free 2
        have f3:=hz.free 3
        have f4:=hz.free 4
        have f5:=hz.free 5
        go_wp2_with fail
        refine bodyPost_ret (v:=dW (.tok ⟨4,[44],0,0,[]⟩)) (by simp [results,Tryz.results59,go_sem,dW,z0,z1,z2,z3,z4,z5]) rfl (zQ (by rw [HE.out,HE2.out]) ?_)
        repeat (first | with_reducible refine Below.drew ?_ | with_reducible refine Below.setCell ?_ (by first | (simp; done) | (simp; omega)) _)
        exact hw
       | false =>
        have HNO:=Lib.hid (show ∀ g∈signs.take 13,g.isPrefixOf L=false from fun g hg=>by
         have h2:g∈signs.take 12++[[44]]:=hg
         rcases List.mem_append.1 h2 with h2 | h2
         ·exact hno g h2
         ·simp only [List.mem_singleton] at h2; rw [h2]; exact hp)
        rw [hp] at hpx
        have HP:=Lib.hid hpx
        clear hpx hpe hp hno
        go_wp2_with fail
        with_reducible refine (HP.out _).mono ?_
        rintro e w' ⟨rfl,rfl⟩
        go_wp2_with fail
        go_roundw
        case rel=>exact ⟨13,by omega,by omega,rfl,HNO.out,hz,hw⟩
        case measure=>simp [intOf]
     ·have hk13:k=13:=by omega
      subst hk13
      have HE2:=Lib.hid (signF_err (l:=L) hno)
      clear hno
      have z0:=hz.cells 0 _ rfl
      have z1:=hz.cells 1 _ rfl
      have z2:=hz.cells 2 _ rfl
      have z3:=hz.cells 3 _ rfl
      have z4:=hz.cells 4 _ rfl
      have z5:=hz.cells 5 _ rfl
      have f0:=hz.free 0
      have f1:=hz.free 1
      have f2:=hz.free 2
      have f3:=hz.free 3
      have f4:=hz.free 4
      have f5:=hz.free 5
      go_wp2_with fail
      refine bodyPost_ret (v:=dW (.err 3)) (by simp [results,Tryz.results59,go_sem,dW,z0,z1,z2,z3,z4,z5]) rfl (zQ (by rw [HE.out,HE2.out]) ?_)
      repeat (first | with_reducible refine Below.drew ?_ | with_reducible refine Below.setCell ?_ (by first | (simp; done) | (simp; omega)) _)
      exact hw
end Go.Proofs.YthplkompdehjlaaGreatDoor
