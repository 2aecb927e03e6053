/-
  Contracts of package lex, fourth part: the walk of quote.
-/
import Derived.Test.YthplkompdehjlaaGreatDoorZR27
import Derived.RegionTactic
import Derived.ChangeAlike
namespace Go.Proofs.YthplkompdehjlaaGreatDoor
open Go.RowKit
theorem quoteF_err {l:List UInt8} {e:Int} (h:eX (l.drop 1) 1 []=.error e):dX l=.err e:=by
 unfold dX; rw [← List.drop_one,h]
theorem quoteF_ok {l:List UInt8} {n:Nat} {x:List UInt8} (h:eX (l.drop 1) 1 []=.ok (n,x)):dX l=.tok ⟨3,l.take n,3,0,x⟩:=by
 unfold dX; rw [← List.drop_one,h]
set_option maxRecDepth 100000 in
set_option maxHeartbeats 8000000 in
theorem quote_any (s:ByteArray) (w:World) (h0:0 < s.size) (hs:s.size≤160) :
  Calls Tryz.prog 90 #[.string s] w (Gives (dW (dX s.data.toList)) w):=by
 have hl:s.data.toList.length=s.size:=by simp
 have HL:=Lib.hid hl
 obtain ⟨L,hLL⟩:∃ L,s.data.toList=L:=⟨_,rfl⟩
 have HLL:=Lib.hid hLL
 have hlen:L.length=s.size:=by rw [← hLL]; exact hl
 have HLN:=Lib.hid hlen
 rw [hLL]
 clear hl hLL hlen
 obtain ⟨i0,hi,hz0,hz1,hz2⟩:=info_parts infoByte
 have bz:=Box.new w #[.int .i64 0,.int .i64 0,.string ⟨#[]⟩,.int .i64 0,.int .i64 0,.string ⟨#[]⟩] 117
 have bw:=(Below.refl w.heap.size w).alloc (Nat.le_refl _) (.cells #[.int .i64 0,.int .i64 0,.string ⟨#[]⟩,.int .i64 0,.int .i64 0,.string ⟨#[]⟩] 117)
 have bs:w.heap.size + 1≤(w.alloc (.cells #[.int .i64 0,.int .i64 0,.string ⟨#[]⟩,.int .i64 0,.int .i64 0,.string ⟨#[]⟩] 117)).heap.size:=by simp
 have START:=Lib.hid (And.intro bz (And.intro bw bs))
 clear bz bw bs
 go_enter Tryz.func90,Tryz.ntmps90
 go_wp2_with fail
 go_loopw [4,5] (fun v i wr=>∃ (k:Nat) (x:List UInt8),1≤k∧k≤s.size∧i=.int .i64 k∧x.length≤k∧eX (L.drop 1) 1 []=eX (L.drop k) k x∧Own wr (w.heap.size + 1) 5 1 v x.length (bcells x) ∧
  Box wr w.heap.size [.int .i64 0,.int .i64 0,.string ⟨#[]⟩,.int .i64 0,.int .i64 0,.string ⟨#[]⟩]∧Below w.heap.size w wr∧w.heap.size + 1≤wr.heap.size) (fun _ i _=>s.size - (intOf i).toNat)
 case atStart =>
  obtain ⟨bz,bw,bs⟩:=START.out
  exact ⟨1,[],by omega,by omega,rfl,by simp,rfl,⟨World.ownsRow_nil _ _ _ _⟩,bz,bw,bs⟩
 case round =>
  clear START
  obtain ⟨k,x,k1,hk,rfl,hxk,hq,hown,hz,hw,hB⟩:=hrel
  by_cases hlt:k < s.size
  ·have hb:L[k]?=some s[k]:=by rw [← HLL.out]; exact vJ s k hlt
   obtain ⟨q1,q2,q3,q4,q5,q6⟩:=quote_at L k k x s[k] hb
   by_cases c1:s[k]=34
   ·have e1:((s[k].toNat:Int) == 34)=true:=by rw [c1]; rfl
    have hq1:=q1 c1
    rw [hq1] at hq
    clear q1 q2 q3 q4 q5 q6 hq1 c1 hb
    obtain ⟨A,cap,rfl⟩:=own_len hown
    by_cases c2:40 < x.length
    ·rw [if_pos c2] at hq
     have HE:=Lib.hid (quoteF_err hq)
     have c2':(40:Int) < (x.length:Int):=by omega
     clear hq c2 hown
     have z0:=hz.cells 0 _ rfl
     have z1:=hz.cells 1 _ rfl
     have z2:=hz.cells 2 _ rfl
     have z3:=hz.cells 3 _ rfl
     have z4:=hz.cells 4 _ rfl
     have z5:=hz.cells 5 _ rfl
     have f0:=hz.free 0
     have f1:=hz.free 1
     have f2:=hz.free 2
     have f3:=hz.free 3
     have f4:=hz.free 4
     have f5:=hz.free 5
     go_wp2_with fail
     refine bodyPost_ret (v:=dW (.err 1)) (by simp [results,Tryz.results90,go_sem,dW,z0,z1,z2,z3,z4,z5]) rfl (zQ (by rw [HE.out]) ?_)
     repeat (first | with_reducible refine Below.drew ?_ | with_reducible refine Below.setCell ?_ (by first | (simp; done) | (simp; omega)) _)
     exact hw
    ·rw [if_neg c2] at hq
     have HE:=Lib.hid (quoteF_ok hq)
     have c2':(x.length:Int)≤40:=by omega
     have hcv:=text_back hown.drew
     have ET:=Lib.hid (ext_take s (k + 1))
     clear hq c2 hown
     have z0:=hz.cells 0 _ rfl
     have z1:=hz.cells 1 _ rfl
     have z2:=hz.cells 2 _ rfl
     have z3:=hz.cells 3 _ rfl
     have z4:=hz.cells 4 _ rfl
     have z5:=hz.cells 5 _ rfl
     have f0:=hz.free 0
     have f1:=hz.free 1
     have f2:=hz.free 2
     have f3:=hz.free 3
     have f4:=hz.free 4
     have f5:=hz.free 5
     go_wp2_with fail
     go_region
     go_wp2_with fail
     refine bodyPost_ret (v:=dW (.tok ⟨3,L.take (k + 1),3,0,x⟩)) (by simp [results,Tryz.results90,go_sem,dW,z0,z1,z2,z3,z4,z5,ET.out,HLL.out]) rfl (zQ (by rw [HE.out]) ?_)
     repeat (first | with_reducible refine Below.drew ?_ | with_reducible refine Below.setCell ?_ (by first | (simp; done) | (simp; omega)) _)
     exact hw
   ·have e1:((s[k].toNat:Int) == 34)=false:=beq_eq_false_iff_ne.2 fun e=>c1 (UInt8.toNat_inj.1 (by show _=34; omega))
    by_cases c2:s[k]=92
    ·have e2:((s[k].toNat:Int) == 92)=true:=by rw [c2]; rfl
     have b0:(32:Int)≤(s[k].toNat:Int):=by rw [c2]; decide
     have b1:(s[k].toNat:Int)≤126:=by rw [c2]; decide
     by_cases c3:k + 1 < s.size
     ·have hb2:L[k + 1]?=some s[k + 1]:=by rw [← HLL.out]; exact vJ s (k + 1) c3
      have c3':(k:Int) + 1 < (s.size:Int):=by omega
      by_cases c4:s[k + 1]=34
      ·have e3:((s[k + 1].toNat:Int) == 34)=true:=by rw [c4]; rfl
       have hq2:=hq.trans (q6 s[k + 1] c2 hb2 (.inl c4))
       clear hq q1 q2 q3 q4 q5 q6 c1 c2 c4 hb hb2
       have hal:=hown.alloc (.cells #[.int .u8 s[k + 1].toNat] 5)
       have hbx:=Box.new wr #[.int .u8 s[k + 1].toNat] 5
       have hza:=hz.alloc (.cells #[.int .u8 s[k + 1].toNat] 5)
       have hwa:=hw.alloc (by omega) (.cells #[.int .u8 s[k + 1].toNat] 5)
       have hxs:w.heap.size + 1≤(wr.alloc (.cells #[.int .u8 s[k + 1].toNat] 5)).heap.size:=by simp; omega
       have HAL:=Lib.hid (And.intro hal (And.intro hbx (And.intro hza (And.intro hwa (And.intro hxs hq2)))))
       clear hal hbx hza hwa hxs hown hz hw hq2
       go_upto_region 13 with (fail)
       go_wp2_with (at_builtin; refine wpList_append_own _ rfl (.tmp 61) (.tmp 65) 90 rfl (w.heap.size + 1) 5 i0 (.int .u8 0) 1 1 Tryz.underlying90 hi hz0 hz1 hz2 rfl (by decide) _ _ _ rfl HAL.out.1.own ⟨wr.heap.size,0,none⟩ 1 1 [.int .u8 s[k + 1].toNat] rfl rfl (box_add HAL.out.2.1) ?c2 ?c3 ?c4 HAL.out.2.2.2.2.1 ?_)
       case c2=>simp [Value.oneCell']
       case c3=>unfold maxLen; omega
       case c4=>omega
       intro v' w1 hown' hgrow _
       have hgb:=bV HAL.out.1 hgrow HAL.out.2.2.2.2.1
       have hz':=HAL.out.2.2.1.low hgb (by omega)
       have hw':=HAL.out.2.2.2.1.trans (hgb.mono (by omega))
       have hB':w.heap.size + 1≤w1.heap.size:=by have h1:=HAL.out.2.2.2.2.1; have h2:=hgb.size; omega
       have ALL:=Lib.hid (And.intro hown' (And.intro hz' (And.intro hw' (And.intro hB' HAL.out.2.2.2.2.2))))
       clear hown' hgrow hgb hz' hw' hB' HAL
       go_wp2_with fail
       go_roundw
       case rel =>
        obtain ⟨hown',hz',hw',hB',hq'⟩:=ALL.out
        exact ⟨k + 2,x++[s[k + 1]],by omega,by omega,by go_num,by simp; omega,hq',⟨by rw [bcells_snoc]; simpa using hown'⟩,hz',hw',hB'⟩
       case measure=>simp [intOf]; omega
      ·have e3:((s[k + 1].toNat:Int) == 34)=false:=beq_eq_false_iff_ne.2 fun e=>c4 (UInt8.toNat_inj.1 (by show _=34; omega))
       by_cases c5:s[k + 1]=92
       ·have e4:((s[k + 1].toNat:Int) == 92)=true:=by rw [c5]; rfl
        have hq2:=hq.trans (q6 s[k + 1] c2 hb2 (.inr c5))
        clear hq q1 q2 q3 q4 q5 q6 c1 c2 c4 c5 hb hb2
        have hal:=hown.alloc (.cells #[.int .u8 s[k + 1].toNat] 5)
        have hbx:=Box.new wr #[.int .u8 s[k + 1].toNat] 5
        have hza:=hz.alloc (.cells #[.int .u8 s[k + 1].toNat] 5)
        have hwa:=hw.alloc (by omega) (.cells #[.int .u8 s[k + 1].toNat] 5)
        have hxs:w.heap.size + 1≤(wr.alloc (.cells #[.int .u8 s[k + 1].toNat] 5)).heap.size:=by simp; omega
        have HAL:=Lib.hid (And.intro hal (And.intro hbx (And.intro hza (And.intro hwa (And.intro hxs hq2)))))
        clear hal hbx hza hwa hxs hown hz hw hq2
        go_upto_region 13 with (fail)
        go_wp2_with (at_builtin; refine wpList_append_own _ rfl (.tmp 61) (.tmp 65) 90 rfl (w.heap.size + 1) 5 i0 (.int .u8 0) 1 1 Tryz.underlying90 hi hz0 hz1 hz2 rfl (by decide) _ _ _ rfl HAL.out.1.own ⟨wr.heap.size,0,none⟩ 1 1 [.int .u8 s[k + 1].toNat] rfl rfl (box_add HAL.out.2.1) ?c2 ?c3 ?c4 HAL.out.2.2.2.2.1 ?_)
        case c2=>simp [Value.oneCell']
        case c3=>unfold maxLen; omega
        case c4=>omega
        intro v' w1 hown' hgrow _
        have hgb:=bV HAL.out.1 hgrow HAL.out.2.2.2.2.1
        have hz':=HAL.out.2.2.1.low hgb (by omega)
        have hw':=HAL.out.2.2.2.1.trans (hgb.mono (by omega))
        have hB':w.heap.size + 1≤w1.heap.size:=by have h1:=HAL.out.2.2.2.2.1; have h2:=hgb.size; omega
        have ALL:=Lib.hid (And.intro hown' (And.intro hz' (And.intro hw' (And.intro hB' HAL.out.2.2.2.2.2))))
        clear hown' hgrow hgb hz' hw' hB' HAL
        go_wp2_with fail
        go_roundw
        case rel =>
         obtain ⟨hown',hz',hw',hB',hq'⟩:=ALL.out
         exact ⟨k + 2,x++[s[k + 1]],by omega,by omega,by go_num,by simp; omega,hq',⟨by rw [bcells_snoc]; simpa using hown'⟩,hz',hw',hB'⟩
        case measure=>simp [intOf]; omega
       ·have e4:((s[k + 1].toNat:Int) == 92)=false:=beq_eq_false_iff_ne.2 fun e=>c5 (UInt8.toNat_inj.1 (by show _=92; omega))
        have HE:=Lib.hid (quoteF_err (l:=L) (by rw [hq]; exact q5 s[k + 1] c2 hb2 (fun h=>h.elim c4 c5)))
        clear hq hown q1 q2 q3 q4 q5 q6 c1 c2 c4 c5 hb hb2
        have z0:=hz.cells 0 _ rfl
        have z1:=hz.cells 1 _ rfl
        have z2:=hz.cells 2 _ rfl
        have z3:=hz.cells 3 _ rfl
        have z4:=hz.cells 4 _ rfl
        have z5:=hz.cells 5 _ rfl
        have f0:=hz.free 0
        have f1:=hz.free 1
        have f2:=hz.free 2
        have f3:=hz.free 3
        have f4:=hz.free 4
        have f5:=hz.free 5
        go_wp2_with fail
        refine bodyPost_ret (v:=dW (.err 3)) (by simp [results,Tryz.results90,go_sem,dW,z0,z1,z2,z3,z4,z5]) rfl (zQ (by rw [HE.out]) ?_)
        repeat (first | with_reducible refine Below.drew ?_ | with_reducible refine Below.setCell ?_ (by first | (simp; done) | (simp; omega)) _)
        exact hw
     ·have hb2:L[k + 1]?=none:=List.getElem?_eq_none (by rw [HLN.out]; omega)
      have c3':¬ (k:Int) + 1 < (s.size:Int):=by omega
      have HE:=Lib.hid (quoteF_err (l:=L) (by rw [hq]; exact q4 c2 hb2))
      clear hq hown q1 q2 q3 q4 q5 q6 c1 c2 hb hb2
      have z0:=hz.cells 0 _ rfl
      have z1:=hz.cells 1 _ rfl
      have z2:=hz.cells 2 _ rfl
      have z3:=hz.cells 3 _ rfl
      have z4:=hz.cells 4 _ rfl
      have z5:=hz.cells 5 _ rfl
      have f0:=hz.free 0
      have f1:=hz.free 1
      have f2:=hz.free 2
      have f3:=hz.free 3
      have f4:=hz.free 4
      have f5:=hz.free 5
      go_wp2_with fail
      refine bodyPost_ret (v:=dW (.err 3)) (by simp [results,Tryz.results90,go_sem,dW,z0,z1,z2,z3,z4,z5]) rfl (zQ (by rw [HE.out]) ?_)
      repeat (first | with_reducible refine Below.drew ?_ | with_reducible refine Below.setCell ?_ (by first | (simp; done) | (simp; omega)) _)
      exact hw
    ·have e2:((s[k].toNat:Int) == 92)=false:=beq_eq_false_iff_ne.2 fun e=>c2 (UInt8.toNat_inj.1 (by show _=92; omega))
     by_cases c3:s[k].toNat < 32
     ·have c3':(s[k].toNat:Int) < 32:=by omega
      have HE:=Lib.hid (quoteF_err (l:=L) (by rw [hq]; exact q2 c1 c2 (.inl c3)))
      clear hq hown q1 q2 q3 q4 q5 q6 c1 c2 c3 hb
      have z0:=hz.cells 0 _ rfl
      have z1:=hz.cells 1 _ rfl
      have z2:=hz.cells 2 _ rfl
      have z3:=hz.cells 3 _ rfl
      have z4:=hz.cells 4 _ rfl
      have z5:=hz.cells 5 _ rfl
      have f0:=hz.free 0
      have f1:=hz.free 1
      have f2:=hz.free 2
      have f3:=hz.free 3
      have f4:=hz.free 4
      have f5:=hz.free 5
      go_wp2_with fail
      refine bodyPost_ret (v:=dW (.err 3)) (by simp [results,Tryz.results90,go_sem,dW,z0,z1,z2,z3,z4,z5]) rfl (zQ (by rw [HE.out]) ?_)
      repeat (first | with_reducible refine Below.drew ?_ | with_reducible refine Below.setCell ?_ (by first | (simp; done) | (simp; omega)) _)
      exact hw
     ·have b0:(32:Int)≤(s[k].toNat:Int):=by omega
      by_cases c4:126 < s[k].toNat
      ·have c4':(126:Int) < (s[k].toNat:Int):=by omega
       have HE:=Lib.hid (quoteF_err (l:=L) (by rw [hq]; exact q2 c1 c2 (.inr c4)))
       clear hq hown q1 q2 q3 q4 q5 q6 c1 c2 c3 c4 hb
       have z0:=hz.cells 0 _ rfl
       have z1:=hz.cells 1 _ rfl
       have z2:=hz.cells 2 _ rfl
       have z3:=hz.cells 3 _ rfl
       have z4:=hz.cells 4 _ rfl
       have z5:=hz.cells 5 _ rfl
       have f0:=hz.free 0
       have f1:=hz.free 1
       have f2:=hz.free 2
       have f3:=hz.free 3
       have f4:=hz.free 4
       have f5:=hz.free 5
       go_wp2_with fail
       refine bodyPost_ret (v:=dW (.err 3)) (by simp [results,Tryz.results90,go_sem,dW,z0,z1,z2,z3,z4,z5]) rfl (zQ (by rw [HE.out]) ?_)
       repeat (first | with_reducible refine Below.drew ?_ | with_reducible refine Below.setCell ?_ (by first | (simp; done) | (simp; omega)) _)
       exact hw
      ·have b1:(s[k].toNat:Int)≤126:=by omega
       have hq2:=hq.trans (q3 c1 c2 (fun h=>h.elim c3 c4))
       clear hq q1 q2 q3 q4 q5 q6 c1 c2 c3 c4 hb
       have hal:=hown.alloc (.cells #[.int .u8 s[k].toNat] 5)
       have hbx:=Box.new wr #[.int .u8 s[k].toNat] 5
       have hza:=hz.alloc (.cells #[.int .u8 s[k].toNat] 5)
       have hwa:=hw.alloc (by omega) (.cells #[.int .u8 s[k].toNat] 5)
       have hxs:w.heap.size + 1≤(wr.alloc (.cells #[.int .u8 s[k].toNat] 5)).heap.size:=by simp; omega
       have HAL:=Lib.hid (And.intro hal (And.intro hbx (And.intro hza (And.intro hwa (And.intro hxs hq2)))))
       clear hal hbx hza hwa hxs hown hz hw hq2
       go_upto_region 6 with (fail)
       go_wp2_with (at_builtin; refine wpList_append_own _ rfl (.tmp 16) (.tmp 18) 90 rfl (w.heap.size + 1) 5 i0 (.int .u8 0) 1 1 Tryz.underlying90 hi hz0 hz1 hz2 rfl (by decide) _ _ _ rfl HAL.out.1.own ⟨wr.heap.size,0,none⟩ 1 1 [.int .u8 s[k].toNat] rfl rfl (box_add HAL.out.2.1) ?c2 ?c3 ?c4 HAL.out.2.2.2.2.1 ?_)
       case c2=>simp [Value.oneCell']
       case c3=>unfold maxLen; omega
       case c4=>omega
       intro v' w1 hown' hgrow _
       have hgb:=bV HAL.out.1 hgrow HAL.out.2.2.2.2.1
       have hz':=HAL.out.2.2.1.low hgb (by omega)
       have hw':=HAL.out.2.2.2.1.trans (hgb.mono (by omega))
       have hB':w.heap.size + 1≤w1.heap.size:=by have h1:=HAL.out.2.2.2.2.1; have h2:=hgb.size; omega
       have ALL:=Lib.hid (And.intro hown' (And.intro hz' (And.intro hw' (And.intro hB' HAL.out.2.2.2.2.2))))
       clear hown' hgrow hgb hz' hw' hB' HAL
       go_wp2_with fail
       go_roundw
       case rel =>
        obtain ⟨hown',hz',hw',hB',hq'⟩:=ALL.out
        exact ⟨k + 1,x++[s[k]],by omega,by omega,by go_num,by simp; omega,hq',⟨by rw [bcells_snoc]; simpa using hown'⟩,hz',hw',hB'⟩
       case measure=>simp [intOf]; omega
  ·have HE:=Lib.hid (quoteF_err (l:=L) (by rw [hq]; exact quote_end L k k x (by rw [HLN.out]; omega)))
   clear hq hown
   have z0:=hz.cells 0 _ rfl
   have z1:=hz.cells 1 _ rfl
   have z2:=hz.cells 2 _ rfl
   have z3:=hz.cells 3 _ rfl
   have z4:=hz.cells 4 _ rfl
   have z5:=hz.cells 5 _ rfl
   have f0:=hz.free 0
   have f1:=hz.free 1
   have f2:=hz.free 2
   have f3:=hz.free 3
   have f4:=hz.free 4
   have f5:=hz.free 5
   go_wp2_with fail
   refine bodyPost_ret (v:=dW (.err 3)) (by simp [results,Tryz.results90,go_sem,dW,z0,z1,z2,z3,z4,z5]) rfl (zQ (by rw [HE.out]) ?_)
   repeat (first | with_reducible refine Below.drew ?_ | with_reducible refine Below.setCell ?_ (by first | (simp; done) | (simp; omega)) _)
   exact hw
end Go.Proofs.YthplkompdehjlaaGreatDoor
