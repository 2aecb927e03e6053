/-
  Contracts of package lex, second part: number.
-/
import Derived.Test.YthplkompdehjlaaGreatDoorZR18
namespace Go.Proofs.YthplkompdehjlaaGreatDoor
open Go.RowKit
theorem word_any (c:UInt8) (w:World):Calls Tryz.prog 89 #[.int .u8 c.toNat] w fun e w'=>e=.returned (.bool (iV c))∧w=w':=by
 cases h:gV c with
 | true =>
  have e:Hid (true=iV c):=by show _=_; simp [iV,h]
  have hc:=letter_any c
  rw [h] at hc
  have HC:=Lib.hid hc
  clear hc h
  go_enter Tryz.func89,Tryz.ntmps89
  go_wp2_with fail
  with_reducible refine (HC.out _).mono ?_
  rintro e w' ⟨rfl,rfl⟩
  go_wp2_with fail
  go_ret
  exact ⟨ret_bool e.out,rfl⟩
 | false =>
  have e:Hid (fV c=iV c):=by show _=_; simp [iV,h]
  have hc:=letter_any c
  rw [h] at hc
  have HC:=Lib.hid hc
  clear hc h
  go_enter Tryz.func89,Tryz.ntmps89
  go_wp2_with fail
  with_reducible refine (HC.out _).mono ?_
  rintro e w' ⟨rfl,rfl⟩
  go_wp2_with fail
  with_reducible refine (digit_any c _).mono ?_
  rintro e w' ⟨rfl,rfl⟩
  go_wp2_with fail
  go_ret
  exact ⟨ret_bool e.out,rfl⟩
@[reducible] def tokC (t:Tok) (a:Int):Value:=.agg #[.int .i64 t.kd,.int .i64 a,.string ⟨t.s.toArray⟩,.int .i64 t.vk,.int .i64 t.vn,.string ⟨t.vs.toArray⟩]
def dW:OneR→Value
 | .tok t=>.tuple #[tokC t 0,.int .i64 0]
 | .err e=>.tuple #[.agg #[.int .i64 0,.int .i64 0,.string ⟨#[]⟩,.int .i64 0,.int .i64 0,.string ⟨#[]⟩],.int .i64 e]
theorem ext_take (s:ByteArray) (n:Nat):s.extract 0 n=⟨(s.data.toList.take n).toArray⟩:=by
 apply ByteArray.ext
 rw [ByteArray.data_extract]
 apply Array.toList_inj.1
 simp
theorem numV_at (l:List UInt8) (k:Nat) (c:UInt8) (h:l[k]?=some c) (v:Int) :
  numV (l.drop k) v=if 1099511627776 < 10 * v + ((c.toNat:Int) - 48) then none else numV (l.drop (k + 1)) (10 * v + ((c.toNat:Int) - 48)):=by
 have hk:k < l.length:=(List.getElem?_eq_some_iff.1 h).1
 have e:l[k]=c:=(List.getElem?_eq_some_iff.1 h).2
 rw [List.drop_eq_getElem_cons hk,e]
 rfl
theorem numberF_zero {l:List UInt8} (h:1 < xX fV l∧l.head?=some 48):wV l=.err 3:=by unfold wV; rw [if_pos h]
theorem numberF_over {l:List UInt8} (h:¬ (1 < xX fV l∧l.head?=some 48)) (e:numV (l.take (xX fV l)) 0=none):wV l=.err 7:=by unfold wV; rw [if_neg h,e]
theorem numberF_tok {l:List UInt8} {v:Int} (h:¬ (1 < xX fV l∧l.head?=some 48)) (e:numV (l.take (xX fV l)) 0=some v):wV l=.tok ⟨1,l.take (xX fV l),1,v,[]⟩:=by
 unfold wV; rw [if_neg h,e]
set_option maxRecDepth 100000 in
set_option maxHeartbeats 4000000 in
theorem number_any (s:ByteArray) (w:World) (h0:0 < s.size) (hs:s.size≤160) :
  Calls Tryz.prog 86 #[.string s] w (Gives (dW (wV s.data.toList)) w):=by
 have hsp:=fun w=>span_any 85 fV s w (by omega) (fun _ _=>by rfl) (fun c w=>digit_any c w)
 have hnl:=spanN_le fV s.data.toList
 have hdg:=span_all fV s.data.toList
 have hl:s.data.toList.length=s.size:=by simp
 rw [hl] at hnl
 have hd:s.data.toList.head?=some s[0]:=by rw [List.head?_eq_getElem?]; exact vJ s 0 h0
 have hz := @numberF_zero s.data.toList
 have ho := @numberF_over s.data.toList
 have ht:=fun v => @numberF_tok s.data.toList v
 rw [hd] at hz ho ht
 generalize xX fV s.data.toList=n at *
 have HS:=Lib.hid hsp
 have HD:=Lib.hid hdg
 have HL:=Lib.hid hl
 clear hsp hdg hl hd
 by_cases c1:1 < n∧s[0]=48
 ·have e1:=hz ⟨c1.1,by rw [c1.2]⟩
  have HE:=Lib.hid e1
  obtain ⟨c2,c3⟩:=c1
  have c4:((s[0].toNat:Int) == 48)=true:=by rw [c3]; rfl
  clear e1 c3 hz ho ht
  go_enter Tryz.func86,Tryz.ntmps86
  go_wp2_with fail
  with_reducible refine (HS.out _).mono ?_
  rintro e w' ⟨rfl,rfl⟩
  go_wp2_with fail
  exact bodyPost_ret (v:=dW (.err 3)) (by simp [results,Tryz.results86,go_sem,dW]) rfl (zQ (by rw [HE.out]) ((Below.refl _ _).alloc (Nat.le_refl _) _))
 ·have c2:¬ (1 < n∧some s[0]=some 48):=fun h=>c1 ⟨h.1,Option.some.inj h.2⟩
  have HO:=Lib.hid (ho c2)
  have HT:=Lib.hid (fun v=>ht v c2)
  clear hz ho ht c2
  have c4:¬ 1 < n∨(1 < n∧((s[0].toNat:Int) == 48)=false):=by
   by_cases h:1 < n
   ·refine .inr ⟨h,beq_eq_false_iff_ne.2 fun e=>c1 ⟨h,?_⟩⟩
    apply UInt8.toNat_inj.1
    show s[0].toNat=48
    omega
   ·exact .inl h
  clear c1
  rcases c4 with c4 | ⟨c4,c5⟩
  all_goals
   go_enter Tryz.func86,Tryz.ntmps86
   go_wp2_with fail
   with_reducible refine (HS.out _).mono ?_
   rintro e w' ⟨rfl,rfl⟩
   go_wp2_with fail
   go_loop [5,18] (fun v i=>∃ (k:Nat) (x:Int),k≤n∧i=.int .i64 k∧v=.int .i64 x∧0≤x∧x≤1099511627776∧numV (s.data.toList.take n) 0=numV ((s.data.toList.take n).drop k) x) (fun _ i=>n - (intOf i).toNat)
   case atStart=>exact ⟨0,0,Nat.zero_le _,rfl,rfl,by omega,by omega,by simp⟩
   case round =>
    obtain ⟨k,x,hk,rfl,rfl,x0,x1,hnv⟩:=hrel
    by_cases hlt:k < n
    ·have hks:k < s.size:=by omega
     have hb:=vJ s k hks
     have hdig:=HD.out k s[k] hlt hb
     have hb':(s.data.toList.take n)[k]?=some s[k]:=by rw [List.getElem?_take_of_lt hlt]; exact hb
     have hst:=numV_at (s.data.toList.take n) k s[k] hb' x
     have d0:(48:Int)≤(s[k].toNat:Int):=by simp [fV] at hdig; omega
     have d1:(s[k].toNat:Int)≤57:=by simp [fV] at hdig; omega
     clear hb hb' hdig
     rw [hst] at hnv
     clear hst
     by_cases hov:1099511627776 < 10 * x + ((s[k].toNat:Int) - 48)
     ·have hE:=HO.out (by rw [hnv,if_pos hov])
      have HE:=Lib.hid hE
      clear hE hnv
      go_wp2_with fail
      exact bodyPost_ret (v:=dW (.err 7)) (by simp [results,Tryz.results86,go_sem,dW]) rfl (zQ (by rw [HE.out]) ((Below.refl _ _).alloc (Nat.le_refl _) _))
     ·have HN:=Lib.hid (show numV (s.data.toList.take n) 0=numV ((s.data.toList.take n).drop (k + 1)) (10 * x + ((s[k].toNat:Int) - 48)) from by rw [hnv,if_neg hov])
      clear hnv
      have hov':10 * x + ((s[k].toNat:Int) - 48)≤1099511627776:=by omega
      clear hov
      go_wp2_with fail
      go_round
      case rel=>exact ⟨k + 1,10 * x + ((s[k].toNat:Int) - 48),by omega,by go_num,rfl,by omega,by omega,HN.out⟩
      case measure=>simp [intOf]; omega
    ·have hkn:k=n:=by omega
     subst hkn
     have hE:=HT.out x (by rw [hnv,List.drop_eq_nil_of_le (by simp; omega)]; rfl)
     have HE:=Lib.hid hE
     clear hE hnv
     go_wp2_with fail
     exact bodyPost_ret (v:=dW (.tok ⟨1,s.data.toList.take k,1,x,[]⟩)) (by simp [results,Tryz.results86,go_sem,dW,ext_take]) rfl (zQ (by rw [HE.out]) ((Below.refl _ _).alloc (Nat.le_refl _) _))
end Go.Proofs.YthplkompdehjlaaGreatDoor
