/-
  How values are shown, in plain Lean: quoting and its undoing, numerals and their reading.
-/
import Derived.Test.YthplkompdehjlaaGreatDoorZR21
import Derived.Lib.SplitLaws
import Derived.Lib.Replace
import Derived.Lib.ItoaNum
import Derived.Lib.ItoaMem
import Derived.Lib.AtoiAllCases
import Derived.Lib.Small
namespace Go.Proofs.YthplkompdehjlaaGreatDoor
open Go.RowKit
set_option linter.unusedVariables false
def rp (c:UInt8) (new:List UInt8) (b:UInt8):List UInt8:=if b=c then new else [b]
theorem replaceK_one (c:UInt8) (new:List UInt8):∀ (s:List UInt8),Lib.replaceK [c] new (Lib.count s [c]) s=s.flatMap (rp c new)
 | []=>by rw [Lib.count_miss (by simp [Lib.index])]; rfl
 | b :: l=>by
  have ih:=replaceK_one c new l
  by_cases h:b=c
  ·subst h
   have hix:Lib.index (b :: l) [b]=((0:Nat):Int):=by rw [Lib.index]; simp [List.isPrefixOf]
   rw [Lib.count_cons_eq,Nat.add_comm,Lib.replaceK_hit _ _ _ _ 0 hix]
   simp [rp,ih]
  ·rw [Lib.count_cons_ne b c l h]
   have e:(b :: l).flatMap (rp c new)=b :: l.flatMap (rp c new):=by simp [rp,h]
   rw [e,← ih]
   cases hk:Lib.count l [c] with
   | zero=>rfl
   | succ k =>
    obtain ⟨i,hi⟩:=Lib.index_of_count (s:=l) (old:=[c]) (by omega)
    have hp:([c]:List UInt8).isPrefixOf (b :: l)=false:=by simp [List.isPrefixOf,Ne.symm h]
    have hix:Lib.index (b :: l) [c]=((i + 1:Nat):Int):=by
     rw [Lib.index,hp]
     simp only [Bool.false_eq_true,if_false]
     rw [hi,if_neg (by intro q; have:=beq_iff_eq.1 q; omega)]; omega
    rw [Lib.replaceK_hit _ _ _ _ _ hix,Lib.replaceK_hit _ _ _ _ _ hi]
    rw [List.take_succ_cons,show i + 1 + ([c]:List UInt8).length=(i + ([c]:List UInt8).length) + 1 by simp,List.drop_succ_cons]
    rfl
theorem replaceAll_one (s:List UInt8) (c:UInt8) (new:List UInt8) (h:[c]≠new):Lib.replaceAll s [c] new=s.flatMap (rp c new):=by
 unfold Lib.replaceAll Lib.replace
 rw [if_neg (by intro q; exact h (by simpa using q))]
 rw [show Lib.replaceNum s [c] (-1)=Lib.count s [c] from by unfold Lib.replaceNum; rw [if_pos (.inl (by decide))]]
 exact replaceK_one c new s
def escB (c:UInt8):List UInt8:=if c=34∨c=92 then [92,c] else [c]
def jK (s:List UInt8):List UInt8:=s.flatMap escB
theorem rep_two (s:List UInt8):Lib.replaceAll (Lib.replaceAll s [92] [92,92]) [34] [92,34]=jK s:=by
 rw [replaceAll_one _ _ _ (by decide),replaceAll_one _ _ _ (by decide),List.flatMap_assoc]
 unfold jK
 congr 1
 funext c
 unfold rp escB
 by_cases h1:c=92
 ·subst h1; simp
 ·by_cases h2:c=34
  ·subst h2; simp
  ·simp [h1,h2]
theorem toList_size (s:ByteArray):s.data.toList.length=s.size:=by rw [Array.length_toList]; rfl
theorem dig_toNat (k:Nat) (h:k < 10):(UInt8.ofNat (48 + k)).toNat=48 + k:=by rw [UInt8.toNat_ofNat']; omega
theorem dec_head (u:Nat):∃ c r,Lib.decDigits u=c :: r∧48≤c.toNat∧c.toNat≤57:=by
 induction u using Nat.strongRecOn with
 | _ u ih =>
  by_cases h:u < 10
  ·exact ⟨_,[],by rw [Lib.decDigits,dif_pos h],by rw [dig_toNat u h]; omega,by rw [dig_toNat u h]; omega⟩
  ·obtain ⟨c,r,e,h1,h2⟩:=ih (u / 10) (by omega)
   exact ⟨c,r++[UInt8.ofNat (48 + u % 10)],by rw [Lib.decDigits,dif_neg h,e]; rfl,h1,h2⟩
def bqm:ByteArray:=⟨#[63]⟩
def btrue:ByteArray:=⟨#[116,114,117,101]⟩
def bfalse:ByteArray:=⟨#[102,97,108,115,101]⟩
def showV (v:Vl):ByteArray :=
 if v.k=1 then ⟨(Lib.itoa v.n).toArray⟩ else if v.k=2 then (if v.n=1 then btrue else bfalse) else if v.k=3 then ⟨(34 :: (jK v.s.data.toList++[34])).toArray⟩
 else if v.k=4 then bqm else ⟨(33 :: Lib.itoa v.n).toArray⟩
end Go.Proofs.YthplkompdehjlaaGreatDoor
