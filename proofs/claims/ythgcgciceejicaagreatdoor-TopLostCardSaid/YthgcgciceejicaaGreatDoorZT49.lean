/-
  Contracts of package net: Check, at; letters that may be.
-/
import Derived.Test.YthgcgciceejicaaGreatDoorZT4
import Derived.Test.YthgcgciceejicaaGreatDoorZT13
namespace Go.Proofs.YthgcgciceejicaaGreatDoor
open Go.RowKit
structure Ltr where
 f:ByteArray
 id:Int
 kk:Int
 kn:Int
 ks:ByteArray
 ak:Int
 an:Int
 as':ByteArray
@[reducible] def Ltr.cells (x:Ltr):List Value:=[.string x.f,.int .i64 x.id,.int .i64 x.kk,.int .i64 x.kn,.string x.ks,.int .i64 x.ak,.int .i64 x.an,.string x.as']
abbrev lcs (l:List Ltr):List (List Value):=l.map Ltr.cells
theorem lcs_len (l:List Ltr):Len 8 (lcs l):=λr hr=>by obtain ⟨x,-,rfl⟩:=Rj.1 hr; rfl
theorem lcs_one (l:List Ltr):One (lcs l):=λr hr=>by
 obtain ⟨x,-,rfl⟩:=Rj.1 hr;intro u hu;simp at hu;rcases hu with rfl | rfl | rfl | rfl | rfl | rfl | rfl | rfl <;> rfl
structure OkL (x:Ltr):Prop where
 id0:1<=x.id
 id1:x.id<=1073741824
 key:pJ x.kk x.kn x.ks
 ans:(x.ak=0/\x.an=0/\x.as'=⟨#[]⟩)\/pJ x.ak x.an x.as'
attribute [local go_sem] Evo.refl Evo.alloc Evo.drew Evo.drewN
set_option maxRecDepth 100000 in
set_option maxHeartbeats 4000000 in
theorem net_check (v:Value) (l:List Ltr) (w:World) (h:Sl w 8 v (lcs l)) (hl:l.length<=24) (hok:∀ x∈l,OkL x) :
  Calls Tryz.prog 221 #[v] w (GivesE (.int .i64 0) w):=by
 obtain ⟨A,cap,rfl,hcap,-⟩:=h.form;rw [Ij] at *;have HR:=Fj h;have HOK:=Fj hok;clear h hok
 go_enter Tryz.func221,Tryz.ntmps221
 go_wp2_with fail
 go_loopw [10] (λn wr=>∃ k:Nat,k<=l.length/\n=.int .i64 k/\Evo w wr) (λn _=>l.length - (intOf n).toNat)
 case atStart=>exact ⟨0,Mj _,rfl,Evo.refl _⟩
 case round =>
  obtain ⟨k,hk,rfl,hb⟩:=hrel
  by_cases hlt:k < l.length
  ·obtain ⟨x,hd⟩:∃ x,l[k]?=some x:=⟨_,Gj hlt⟩;obtain ⟨b,off,rfl,hbl,hc⟩:=HR.out.row (i:=k) (r:=x.cells) (by rw [Oj,hd]; rfl);have c0:∀ W,Evo w W->W.cell? ⟨b,off + k * 8,none⟩=some _:=hc 0 _ rfl;have c1:∀ W,Evo w W->W.cell? ⟨b,off + k * 8 + 1,none⟩=some _:=hc 1 _ rfl;have c2:∀ W,Evo w W->W.cell? ⟨b,off + k * 8 + 2,none⟩=some _:=hc 2 _ rfl;have c3:∀ W,Evo w W->W.cell? ⟨b,off + k * 8 + 3,none⟩=some _:=hc 3 _ rfl;have c4:∀ W,Evo w W->W.cell? ⟨b,off + k * 8 + 4,none⟩=some _:=hc 4 _ rfl;have c5:∀ W,Evo w W->W.cell? ⟨b,off + k * 8 + 5,none⟩=some _:=hc 5 _ rfl;have c6:∀ W,Evo w W->W.cell? ⟨b,off + k * 8 + 6,none⟩=some _:=hc 6 _ rfl;have c7:∀ W,Evo w W->W.cell? ⟨b,off + k * 8 + 7,none⟩=some _:=hc 7 _ rfl;obtain ⟨i0,i1,hkey,hans⟩:=HOK.out x (Ej hd);have HK:=Fj (λW=>wV x.kk x.kn x.ks W hkey);have ee:=(hb.alloc (.cells #[.string x.f,.int .i64 x.id,.int .i64 x.kk,.int .i64 x.kn,.string x.ks,.int .i64 x.ak,.int .i64 x.an,.string x.as'] 57));have bx:=Box.new wr #[.string x.f,.int .i64 x.id,.int .i64 x.kk,.int .i64 x.kn,.string x.ks,.int .i64 x.ak,.int .i64 x.an,.string x.as'] 57;have EE:=Fj ee;have BX:=Fj bx;clear hc hd hkey ee bx;rcases hans with ⟨h1,h2,h3⟩ | hans
   ·obtain ⟨xf,xid,xkk,xkn,xks,xak,xan,xas⟩:=x;simp only at h1 h2 h3 i0 i1 c0 c1 c2 c3 c4 c5 c6 c7 HK BX EE;subst h1 h2 h3
    go_wp2_with fail
    with_reducible refine (HK.out _).mono ?_
    rintro e u1 ⟨rfl,hb2⟩;have b1:=BX.out.keep hb2;have x0:=b1.cells 0 _ rfl;have x1:=b1.cells 1 _ rfl;have x2:=b1.cells 2 _ rfl;have x3:=b1.cells 3 _ rfl;have x4:=b1.cells 4 _ rfl;have x5:=b1.cells 5 _ rfl;have x6:=b1.cells 6 _ rfl;have x7:=b1.cells 7 _ rfl;have e1:=EE.out.trans ⟨hb2⟩;clear hb2 hb
    go_wp2_with fail
    go_roundw
    case rel=>exact ⟨k + 1,by omega,by go_num,by (first | assumption | (exact Evo.drew (Evo.refl _)) | (exact Evo.drew (by assumption)) | (exact Evo.drewN (by assumption) _) | (exact Evo.drewN (Evo.refl _) _) | (exact Evo.trans (by assumption) ⟨by assumption⟩) | (exact Evo.alloc (by assumption) _) | (exact Evo.trans (by assumption) hE))⟩
    case measure=>simp [intOf]; omega
   ·have HA:=Fj (λW=>wV x.ak x.an x.as' W hans);have hk0:(x.ak == 0)=false:=Lj.2 (by have:=known_kind hans; omega);clear hans
    go_wp2_with fail
    with_reducible refine (HK.out _).mono ?_
    rintro e u1 ⟨rfl,hb2⟩;have b1:=BX.out.keep hb2;have x0:=b1.cells 0 _ rfl;have x1:=b1.cells 1 _ rfl;have x2:=b1.cells 2 _ rfl;have x3:=b1.cells 3 _ rfl;have x4:=b1.cells 4 _ rfl;have x5:=b1.cells 5 _ rfl;have x6:=b1.cells 6 _ rfl;have x7:=b1.cells 7 _ rfl;have e1:=EE.out.trans ⟨hb2⟩;clear hb2 hb
    go_wp2_with fail
    with_reducible refine (HA.out _).mono ?_
    rintro e u2 ⟨rfl,hb2⟩;have e2:=e1.trans ⟨hb2⟩;clear e1
    go_wp2_with fail
    go_roundw
    case rel=>exact ⟨k + 1,by omega,by go_num,by (first | assumption | (exact Evo.drew (Evo.refl _)) | (exact Evo.drew (by assumption)) | (exact Evo.drewN (by assumption) _) | (exact Evo.drewN (Evo.refl _) _) | (exact Evo.trans (by assumption) ⟨by assumption⟩) | (exact Evo.alloc (by assumption) _) | (exact Evo.trans (by assumption) hE))⟩
    case measure=>simp [intOf]; omega
  ·have hkn:k=l.length:=by omega
   subst hkn;clear hlt hk
   go_wp2_with fail
   go_ret
   exact ⟨rfl,hb⟩
end Go.Proofs.YthgcgciceejicaaGreatDoor
