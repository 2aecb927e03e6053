/-
  The tokens of a text, in plain Lean: no program in sight. Contracts of package lex, first part: letter, digit, span, number. Contracts of lex.Key and lex.Name.
-/
import Derived.Test.YthgcgciceejicaaGreatDoorZT0
import Derived.Lib.Strings
import Derived.Lib.Walk
import Derived.Deep.Cut
set_option maxHeartbeats 2000000
namespace Go.Proofs.YthgcgciceejicaaGreatDoor
def isLet (c:UInt8):Bool:=decide (97<=c.toNat/\c.toNat<=122)
def isDig (c:UInt8):Bool:=decide (48<=c.toNat/\c.toNat<=57)
def sV (c:UInt8):Bool:=isLet c || isDig c
def spanN (p:UInt8->Bool) (l:List UInt8):Nat:=(l.takeWhile p).length
theorem spanN_cons (p:UInt8->Bool) (c:UInt8) (l:List UInt8):spanN p (c :: l)=if p c then spanN p l + 1 else 0:=by
 unfold spanN;rw [List.takeWhile_cons]
 split <;> simp
structure Tok where
 kd:Int
 s:List UInt8
 vk:Int
 vn:Int
 vs:List UInt8
inductive OneR where
 | tok (t:Tok)
 | err (e:Int)
def signs:List (List UInt8):=[[60,61],[33,61],[60],[61],[43],[45],[42],[47],[37],[38],[40],[41],[44]]
structure TokA where
 t:Tok
 at':Nat
open Go.RowKit
theorem ret_bool {a b:Bool} (h:a=b):Ending.returned (.bool a)=.returned (.bool b):=by rw [h]
theorem ret_int8 {k:IntKind} {a b:Int} (h:a=b):Ending.returned (.int k a)=.returned (.int k b):=by rw [h]
theorem letter_any (c:UInt8) (w:World):Calls Tryz.prog 171 #[.int .u8 c.toNat] w λe w'=>e=.returned (.bool (isLet c))/\w=w':=by
 by_cases g:97<=c.toNat
 ·have g':(97:Int)<=(c.toNat:Int):=by omega
  have e:Hid (decide ((c.toNat:Int)<=122)=isLet c):=by show _=_; unfold isLet; rw [decide_eq_decide]; omega
  clear g
  go_enter Tryz.func171,Tryz.ntmps171
  go_wp2
  go_ret
  exact ⟨ret_bool e.out,rfl⟩
 ·have g':(c.toNat:Int) < 97:=by omega
  have e:Hid (isLet c=false):=by show _=_; unfold isLet; rw [decide_eq_false_iff_not]; omega
  clear g
  go_enter Tryz.func171,Tryz.ntmps171
  go_wp2
  go_ret
  exact ⟨ret_bool e.out.symm,rfl⟩
theorem digit_any (c:UInt8) (w:World):Calls Tryz.prog 174 #[.int .u8 c.toNat] w λe w'=>e=.returned (.bool (isDig c))/\w=w':=by
 by_cases g:48<=c.toNat
 ·have g':(48:Int)<=(c.toNat:Int):=by omega
  have e:Hid (decide ((c.toNat:Int)<=57)=isDig c):=by show _=_; unfold isDig; rw [decide_eq_decide]; omega
  clear g
  go_enter Tryz.func174,Tryz.ntmps174
  go_wp2
  go_ret
  exact ⟨ret_bool e.out,rfl⟩
 ·have g':(c.toNat:Int) < 48:=by omega
  have e:Hid (isDig c=false):=by show _=_; unfold isDig; rw [decide_eq_false_iff_not]; omega
  clear g
  go_enter Tryz.func174,Tryz.ntmps174
  go_wp2
  go_ret
  exact ⟨ret_bool e.out.symm,rfl⟩
theorem spanN_at (p:UInt8->Bool) (l:List UInt8) (k:Nat) (c:UInt8) (h:l[k]?=some c):spanN p (l.drop k)=if p c then spanN p (l.drop (k + 1)) + 1 else 0:=by
 have hk:k < l.length:=(Nj.1 h).1;have e:l[k]=c:=(Nj.1 h).2;rw [Tv hk,e,spanN_cons]
theorem spanN_end (p:UInt8->Bool) (l:List UInt8) (k:Nat) (h:l.length<=k):spanN p (l.drop k)=0:=by
 rw [Vv h]; rfl
theorem byte_list (s:ByteArray) (k:Nat) (h:k < s.size):s.data.toList[k]?=some s[k]:=by
 rw [Gj (by simpa using h)]; rfl
theorem span_any (f:Nat) (p:UInt8->Bool) (s:ByteArray) (w:World) (hs:s.size<=9223372036854775806)
  (hcf:∀ (c:UInt8) w,(callFunc f #[.int .u8 c.toNat]).run Tryz.prog w=.ok (.enter f #[.int .u8 c.toNat]) w)
  (hf:∀ (c:UInt8) w,Calls Tryz.prog f #[.int .u8 c.toNat] w λe w'=>e=.returned (.bool (p c))/\w=w') :
  Calls Tryz.prog 172 #[.string s,.func (.func f) #[] #[]] w λe w'=>e=.returned (.int .i64 (spanN p s.data.toList))/\w=w':=by
 have HF:=Fj hf;clear hf;have HL:=Fj (show s.data.toList.length=s.size from by simp)
 go_enter Tryz.func172,Tryz.ntmps172
 go_wp2_with fail
 go_loop [5] (λi=>∃ k:Nat,k<=s.size/\i=.int .i64 k/\spanN p s.data.toList=k + spanN p (s.data.toList.drop k)) (λi=>s.size - (intOf i).toNat)
 case atStart=>exact ⟨0,Mj _,rfl,by simp⟩
 case round =>
  obtain ⟨k,hk,rfl,hsp⟩:=hrel
  by_cases hlt:k < s.size
  ·have hst:=spanN_at p s.data.toList k s[k] (byte_list s k hlt);have hf:=HF.out s[k];have hcf':=hcf s[k]
   cases hp:p s[k] with
   | true =>
    rw [hp] at hst hf;have HS:=Fj (show spanN p s.data.toList=(k + 1:Nat) + spanN p (s.data.toList.drop (k + 1)) from by rw [hsp,hst]; simp; omega);have HC:=Fj hf;clear hst hf hsp hp
    go_wp2_with fail
    with_reducible refine (HC.out _).mono ?_
    rintro e w' ⟨rfl,rfl⟩
    go_wp2_with fail
    go_round
    case rel=>exact ⟨k + 1,by omega,by go_num,HS.out⟩
    case measure=>simp [intOf]; omega
   | false =>
    rw [hp] at hst hf;have HS:=Fj (show spanN p s.data.toList=k from by rw [hsp,hst]; simp);have HC:=Fj hf;clear hst hf hsp hp
    go_wp2_with fail
    with_reducible refine (HC.out _).mono ?_
    rintro e w' ⟨rfl,rfl⟩
    go_wp2_with fail
    go_ret
    exact ⟨ret_int8 (by rw [HS.out]),rfl⟩
  ·have HS:=Fj (show spanN p s.data.toList=k from by rw [hsp,spanN_end _ _ _ (by rw [HL.out]; omega)]; rfl);clear hsp
   go_wp2_with fail
   go_ret
   exact ⟨ret_int8 (by rw [HS.out]),rfl⟩
theorem word_any2 (c:UInt8) (w:World):Calls Tryz.prog 173 #[.int .u8 c.toNat] w λe w'=>e=.returned (.bool (sV c))/\w=w':=by
 cases h:isLet c with
 | true =>
  have e:Hid (true=sV c):=by show _=_; simp [sV,h]
  have hc:=letter_any c;rw [h] at hc;have HC:=Fj hc;clear hc h
  go_enter Tryz.func173,Tryz.ntmps173
  go_wp2_with fail
  with_reducible refine (HC.out _).mono ?_
  rintro e w' ⟨rfl,rfl⟩
  go_wp2_with fail
  go_ret
  exact ⟨ret_bool e.out,rfl⟩
 | false =>
  have e:Hid (isDig c=sV c):=by show _=_; simp [sV,h]
  have hc:=letter_any c;rw [h] at hc;have HC:=Fj hc;clear hc h
  go_enter Tryz.func173,Tryz.ntmps173
  go_wp2_with fail
  with_reducible refine (HC.out _).mono ?_
  rintro e w' ⟨rfl,rfl⟩
  go_wp2_with fail
  with_reducible refine (digit_any c _).mono ?_
  rintro e w' ⟨rfl,rfl⟩
  go_wp2_with fail
  go_ret
  exact ⟨ret_bool e.out,rfl⟩
def keys:List (List UInt8):=[[97,110,100],[111,114],[110,111,116],[116,114,117,101],[102,97,108,115,101],[105,102],[108,101,110]]
def isKey (l:List UInt8):Bool:=keys.contains l
theorem key_no (s:ByteArray) (w:World) (h:isKey s.data.toList=false):Calls Tryz.prog 175 #[.string s] w λe w'=>e=.returned (.bool false)/\w=w':=by
 have hn:∀ k∈keys,s.data.toList≠k:=λk hk e=>by
  have:isKey s.data.toList=true:=by unfold isKey; rw [e]; exact List.contains_iff_mem.2 hk
  rw [h] at this; cases this
 have k0:(s.toList == [97,110,100])=false:=by rw [Lib.toList_data]; exact Lj.2 (hn _ (by decide))
 have k1:(s.toList == [111,114])=false:=by rw [Lib.toList_data]; exact Lj.2 (hn _ (by decide))
 have k2:(s.toList == [110,111,116])=false:=by rw [Lib.toList_data]; exact Lj.2 (hn _ (by decide))
 have k3:(s.toList == [116,114,117,101])=false:=by rw [Lib.toList_data]; exact Lj.2 (hn _ (by decide))
 have k4:(s.toList == [102,97,108,115,101])=false:=by rw [Lib.toList_data]; exact Lj.2 (hn _ (by decide))
 have k5:(s.toList == [105,102])=false:=by rw [Lib.toList_data]; exact Lj.2 (hn _ (by decide))
 have k6:(s.toList == [108,101,110])=false:=by rw [Lib.toList_data]; exact Lj.2 (hn _ (by decide))
 clear hn h
 go_enter Tryz.func175,Tryz.ntmps175
 go_wp2_with fail
 go_ret
 exact ⟨rfl,rfl⟩
theorem key_yes (s:ByteArray) (w:World) (h:isKey s.data.toList=true):Calls Tryz.prog 175 #[.string s] w λe w'=>e=.returned (.bool true)/\w=w':=by
 have hm:s.data.toList∈keys:=List.contains_iff_mem.1 h;clear h;simp only [keys,Tj,Bw,or_false] at hm;rcases hm with h | h | h | h | h | h | h
 ·have e:s.toList=[97,110,100]:=by rw [Lib.toList_data,h]
  have k0:(s.toList == [97,110,100])=true:=by rw [e]; rfl
  clear e h
  go_enter Tryz.func175,Tryz.ntmps175
  go_wp2_with fail
  go_ret
  exact ⟨rfl,rfl⟩
 ·have e:s.toList=[111,114]:=by rw [Lib.toList_data,h]
  have k0:(s.toList == [97,110,100])=false:=by rw [e]; rfl
  have k1:(s.toList == [111,114])=true:=by rw [e]; rfl
  clear e h
  go_enter Tryz.func175,Tryz.ntmps175
  go_wp2_with fail
  go_ret
  exact ⟨rfl,rfl⟩
 ·have e:s.toList=[110,111,116]:=by rw [Lib.toList_data,h]
  have k0:(s.toList == [97,110,100])=false:=by rw [e]; rfl
  have k1:(s.toList == [111,114])=false:=by rw [e]; rfl
  have k2:(s.toList == [110,111,116])=true:=by rw [e]; rfl
  clear e h
  go_enter Tryz.func175,Tryz.ntmps175
  go_wp2_with fail
  go_ret
  exact ⟨rfl,rfl⟩
 ·have e:s.toList=[116,114,117,101]:=by rw [Lib.toList_data,h]
  have k0:(s.toList == [97,110,100])=false:=by rw [e]; rfl
  have k1:(s.toList == [111,114])=false:=by rw [e]; rfl
  have k2:(s.toList == [110,111,116])=false:=by rw [e]; rfl
  have k3:(s.toList == [116,114,117,101])=true:=by rw [e]; rfl
  clear e h
  go_enter Tryz.func175,Tryz.ntmps175
  go_wp2_with fail
  go_ret
  exact ⟨rfl,rfl⟩
 ·have e:s.toList=[102,97,108,115,101]:=by rw [Lib.toList_data,h]
  have k0:(s.toList == [97,110,100])=false:=by rw [e]; rfl
  have k1:(s.toList == [111,114])=false:=by rw [e]; rfl
  have k2:(s.toList == [110,111,116])=false:=by rw [e]; rfl
  have k3:(s.toList == [116,114,117,101])=false:=by rw [e]; rfl
  have k4:(s.toList == [102,97,108,115,101])=true:=by rw [e]; rfl
  clear e h
  go_enter Tryz.func175,Tryz.ntmps175
  go_wp2_with fail
  go_ret
  exact ⟨rfl,rfl⟩
 ·have e:s.toList=[105,102]:=by rw [Lib.toList_data,h]
  have k0:(s.toList == [97,110,100])=false:=by rw [e]; rfl
  have k1:(s.toList == [111,114])=false:=by rw [e]; rfl
  have k2:(s.toList == [110,111,116])=false:=by rw [e]; rfl
  have k3:(s.toList == [116,114,117,101])=false:=by rw [e]; rfl
  have k4:(s.toList == [102,97,108,115,101])=false:=by rw [e]; rfl
  have k5:(s.toList == [105,102])=true:=by rw [e]; rfl
  clear e h
  go_enter Tryz.func175,Tryz.ntmps175
  go_wp2_with fail
  go_ret
  exact ⟨rfl,rfl⟩
 ·have e:s.toList=[108,101,110]:=by rw [Lib.toList_data,h]
  have k0:(s.toList == [97,110,100])=false:=by rw [e]; rfl
  have k1:(s.toList == [111,114])=false:=by rw [e]; rfl
  have k2:(s.toList == [110,111,116])=false:=by rw [e]; rfl
  have k3:(s.toList == [116,114,117,101])=false:=by rw [e]; rfl
  have k4:(s.toList == [102,97,108,115,101])=false:=by rw [e]; rfl
  have k5:(s.toList == [105,102])=false:=by rw [e]; rfl
  have k6:(s.toList == [108,101,110])=true:=by rw [e]; rfl
  clear e h
  go_enter Tryz.func175,Tryz.ntmps175
  go_wp2_with fail
  go_ret
  exact ⟨rfl,rfl⟩
def qJ (l:List UInt8):Prop:=1<=l.length/\l.length<=10/\(∃ c,l.head?=some c/\isLet c=true)/\spanN sV l=l.length/\isKey l=false
set_option maxRecDepth 100000 in
theorem name_yes (s:ByteArray) (w:World) (h:qJ s.data.toList):Calls Tryz.prog 118 #[.string s] w λe w'=>e=.returned (.int .i64 0)/\w=w':=by
 obtain ⟨h1,h2,⟨c,hc,hl⟩,h3,h4⟩:=h;have hlen:s.data.toList.length=s.size:=by simp
 rw [hlen] at h1 h2 h3;have h0:0 < s.size:=by omega
 have hd:s.data.toList.head?=some s[0]:=by rw [List.head?_eq_getElem?]; exact byte_list s 0 h0
 rw [hd] at hc
 injection hc with hc
 rw [<- hc] at hl;have hlt:=letter_any s[0];rw [hl] at hlt;have hsp:=λw=>span_any 173 sV s w (by omega) (λ_ _=>by rfl) (λc w=>word_any2 c w);rw [h3] at hsp;have hk:=λw=>key_no s w h4;have HLT:=Fj hlt;have HSP:=Fj hsp;have HK:=Fj hk;have g1:(1:Int)<=(s.size:Int):=by omega
 have g2:(s.size:Int)<=10:=by omega
 clear hlt hsp hk hd hc hl h3 h4 hlen
 go_enter Tryz.func118,Tryz.ntmps118
 go_wp2_with fail
 with_reducible refine (HLT.out _).mono ?_
 rintro e w' ⟨rfl,rfl⟩
 go_wp2_with fail
 with_reducible refine (HSP.out _).mono ?_
 rintro e w' ⟨rfl,rfl⟩
 go_wp2_with fail
 with_reducible refine (HK.out _).mono ?_
 rintro e w' ⟨rfl,rfl⟩
 go_wp2_with fail
 go_ret
 exact ⟨rfl,rfl⟩
end Go.Proofs.YthgcgciceejicaaGreatDoor
