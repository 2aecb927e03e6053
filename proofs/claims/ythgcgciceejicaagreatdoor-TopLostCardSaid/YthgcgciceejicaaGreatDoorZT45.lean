/-
  slices.Clone and slices.Equal at calls, values, facts.
-/
import Derived.Test.YthgcgciceejicaaGreatDoorZT43
import Derived.Test.YthgcgciceejicaaGreatDoorZT39
set_option maxHeartbeats 4000000
set_option maxRecDepth 100000
namespace Go.Proofs.YthgcgciceejicaaGreatDoor
open Go.RowKit
set_option linter.unusedVariables false
theorem info_cal:(Tryz.prog.info? 130).map (λi=>(i.zero,i.size,i.bytes))=some (some (.agg #[.int .i64 0,.int .i64 0,.int .i64 0,.int .i64 0,.int .i64 0,.string ⟨#[]⟩,.int .i64 0,.int .i64 0,.string ⟨#[]⟩,.int .i64 0]),10,96):=by kernel_rfl
theorem clone_cal (v:Value) (l:List (List Value)) (w:World) (h:Sl w 10 v l) (hk:Len 10 l) (h1:One l) (hl:l.length * 96<=140737488355328) :
  Calls Tryz.prog 102 #[v] w (oJ 130 10 l w):=by
 have q22:∀ (w:World) (a:Option Addr) (n c n' c':Nat),(binOp .eql 33 (.slice a n c) (.slice none n' c')).run Tryz.prog w=.ok (.bool a.isNone) w:=λw a n c n' c'=>Lib.run_eql_slice_nil w _ _ a n c n' c' Tryz.underlying33;obtain ⟨A,cap,rfl,c1,c2,hA⟩:=h.form
 cases A with
 | none =>
  obtain rfl:=hA rfl;have h0:l.length=0:=by omega
  obtain rfl:=Wq.1 h0
  go_enter Tryz.func102,Tryz.ntmps102
  go_wp2_with fail
  go_ret
  exact ⟨_,rfl,⟨by simp,.inl ⟨rfl,rfl⟩⟩,Evo.refl _⟩
 | some a =>
  have HR:=Fj h;have HK:=Fj hk;have H1:=Fj h1;clear h hk h1
  go_enter Tryz.func102,Tryz.ntmps102
  go_wp2_with (at_builtin; refine uZ rfl (.tmp 5) (.tmp 6) 33 rfl 130 _ 10 96 Tryz.underlying33 info_cal rfl (by decide) w ((Evo.refl _).alloc _) [] l _ _ rfl rfl ⟨World.ownsRow_made w #[] 0 (Hj _) (Mj _) (by simp)⟩ (HR.out.at ((Evo.refl _).alloc _)) HK.out H1.out ?c1 ?c2 ?_)
  case c1=>simp; omega
  case c2=>simpa using hl
  intro v' w1 hown hbl hg;have HW:=Fj (⟨hown,hbl⟩:Own w1 w.heap.size 130 10 v' ([]++l).length ([]++l).flatten/\Evo w w1);clear hown hg hbl
  go_wp2_with fail
  go_ret
  exact ⟨_,rfl,HW.out.1,HW.out.2⟩
theorem info_vlE:(Tryz.prog.info? 44).map (λi=>(i.zero,i.size,i.bytes))=some (some (.agg #[.int .i64 0,.int .i64 0,.string ⟨#[]⟩]),3,32):=by kernel_rfl
theorem clone_vlE (v:Value) (l:List (List Value)) (w:World) (h:Sl w 3 v l) (hk:Len 3 l) (h1:One l) (hl:l.length * 32<=140737488355328) :
  Calls Tryz.prog 103 #[v] w (oJ 44 3 l w):=by
 have q22:∀ (w:World) (a:Option Addr) (n c n' c':Nat),(binOp .eql 34 (.slice a n c) (.slice none n' c')).run Tryz.prog w=.ok (.bool a.isNone) w:=λw a n c n' c'=>Lib.run_eql_slice_nil w _ _ a n c n' c' Tryz.underlying34;obtain ⟨A,cap,rfl,c1,c2,hA⟩:=h.form
 cases A with
 | none =>
  obtain rfl:=hA rfl;have h0:l.length=0:=by omega
  obtain rfl:=Wq.1 h0
  go_enter Tryz.func103,Tryz.ntmps103
  go_wp2_with fail
  go_ret
  exact ⟨_,rfl,⟨by simp,.inl ⟨rfl,rfl⟩⟩,Evo.refl _⟩
 | some a =>
  have HR:=Fj h;have HK:=Fj hk;have H1:=Fj h1;clear h hk h1
  go_enter Tryz.func103,Tryz.ntmps103
  go_wp2_with (at_builtin; refine uZ rfl (.tmp 5) (.tmp 6) 34 rfl 44 _ 3 32 Tryz.underlying34 info_vlE rfl (by decide) w ((Evo.refl _).alloc _) [] l _ _ rfl rfl ⟨World.ownsRow_made w #[] 0 (Hj _) (Mj _) (by simp)⟩ (HR.out.at ((Evo.refl _).alloc _)) HK.out H1.out ?c1 ?c2 ?_)
  case c1=>simp; omega
  case c2=>simpa using hl
  intro v' w1 hown hbl hg;have HW:=Fj (⟨hown,hbl⟩:Own w1 w.heap.size 44 3 v' ([]++l).length ([]++l).flatten/\Evo w w1);clear hown hg hbl
  go_wp2_with fail
  go_ret
  exact ⟨_,rfl,HW.out.1,HW.out.2⟩
theorem equal_cal (v v':Value) (l:List Cl) (w:World) (h:Sl w 10 v (l.map Cl.cells)) (h':Sl w 10 v' (l.map Cl.cells)) (hl:l.length<=9223372036854775806) :
  Calls Tryz.prog 100 #[v,v'] w (GivesE (.bool true) w):=by
 obtain ⟨A,cap,rfl,hcap,-⟩:=h.form;obtain ⟨A',cap',rfl,hcap',-⟩:=h'.form;rw [Ij] at *;have HR:=Fj h;have HS:=Fj h';clear h h'
 go_enter Tryz.func100,Tryz.ntmps100
 go_wp2_with fail
 go_loopw [13] (λn wr=>∃ k:Nat,k<=l.length/\n=.int .i64 k/\Evo w wr) (λn _=>l.length - (intOf n).toNat)
 case atStart=>exact ⟨0,Mj _,rfl,Evo.refl _⟩
 case round =>
  obtain ⟨k,hk,rfl,hb⟩:=hrel
  by_cases hlt:k < l.length
  ·obtain ⟨x,hd⟩:∃ x,l[k]?=some x:=⟨_,Gj hlt⟩;obtain ⟨b,off,rfl,hbl,hc⟩:=HR.out.row (i:=k) (r:=Cl.cells x) (by rw [Oj,hd]; rfl);have c0:∀ W,Evo w W->W.cell? ⟨b,off + k * 10,none⟩=some _:=hc 0 _ rfl;have c1:∀ W,Evo w W->W.cell? ⟨b,off + k * 10 + 1,none⟩=some _:=hc 1 _ rfl;have c2:∀ W,Evo w W->W.cell? ⟨b,off + k * 10 + 2,none⟩=some _:=hc 2 _ rfl;have c3:∀ W,Evo w W->W.cell? ⟨b,off + k * 10 + 3,none⟩=some _:=hc 3 _ rfl;have c4:∀ W,Evo w W->W.cell? ⟨b,off + k * 10 + 4,none⟩=some _:=hc 4 _ rfl;have c5:∀ W,Evo w W->W.cell? ⟨b,off + k * 10 + 5,none⟩=some _:=hc 5 _ rfl;have c6:∀ W,Evo w W->W.cell? ⟨b,off + k * 10 + 6,none⟩=some _:=hc 6 _ rfl;have c7:∀ W,Evo w W->W.cell? ⟨b,off + k * 10 + 7,none⟩=some _:=hc 7 _ rfl;have c8:∀ W,Evo w W->W.cell? ⟨b,off + k * 10 + 8,none⟩=some _:=hc 8 _ rfl;have c9:∀ W,Evo w W->W.cell? ⟨b,off + k * 10 + 9,none⟩=some _:=hc 9 _ rfl;obtain ⟨b',off',rfl,hbl',hc'⟩:=HS.out.row (i:=k) (r:=Cl.cells x) (by rw [Oj,hd]; rfl);have d0:∀ W,Evo w W->W.cell? ⟨b',off' + k * 10,none⟩=some _:=hc' 0 _ rfl;have d1:∀ W,Evo w W->W.cell? ⟨b',off' + k * 10 + 1,none⟩=some _:=hc' 1 _ rfl;have d2:∀ W,Evo w W->W.cell? ⟨b',off' + k * 10 + 2,none⟩=some _:=hc' 2 _ rfl;have d3:∀ W,Evo w W->W.cell? ⟨b',off' + k * 10 + 3,none⟩=some _:=hc' 3 _ rfl;have d4:∀ W,Evo w W->W.cell? ⟨b',off' + k * 10 + 4,none⟩=some _:=hc' 4 _ rfl;have d5:∀ W,Evo w W->W.cell? ⟨b',off' + k * 10 + 5,none⟩=some _:=hc' 5 _ rfl;have d6:∀ W,Evo w W->W.cell? ⟨b',off' + k * 10 + 6,none⟩=some _:=hc' 6 _ rfl;have d7:∀ W,Evo w W->W.cell? ⟨b',off' + k * 10 + 7,none⟩=some _:=hc' 7 _ rfl;have d8:∀ W,Evo w W->W.cell? ⟨b',off' + k * 10 + 8,none⟩=some _:=hc' 8 _ rfl;have d9:∀ W,Evo w W->W.cell? ⟨b',off' + k * 10 + 9,none⟩=some _:=hc' 9 _ rfl;have k0:(0:Int)<=(k:Int):=by omega
   have k1:(k:Int) < (l.length:Int):=by omega
   clear hc hc' hd
   go_wp2_with fail
   go_quiet (fail)
   go_wp2_with fail
   go_roundw
   case rel=>exact ⟨k + 1,by omega,by go_num,by (first | assumption | (exact Evo.drew (Evo.refl _)) | (exact Evo.drew (by assumption)) | (exact Evo.drewN (by assumption) _) | (exact Evo.drewN (Evo.refl _) _) | (exact Evo.trans (by assumption) ⟨by assumption⟩) | (exact Evo.alloc (by assumption) _) | (exact Evo.trans (by assumption) hE))⟩
   case measure=>simp [intOf]; omega
  ·have hkn:k=l.length:=by omega
   subst hkn;clear hlt hk
   go_wp2_with fail
   go_ret
   exact ⟨rfl,hb⟩
theorem equal_vlE (v v':Value) (l:List Vl) (w:World) (h:Sl w 3 v (l.map Vl.cells)) (h':Sl w 3 v' (l.map Vl.cells)) (hl:l.length<=9223372036854775806) :
  Calls Tryz.prog 19 #[v,v'] w (GivesE (.bool true) w):=by
 obtain ⟨A,cap,rfl,hcap,-⟩:=h.form;obtain ⟨A',cap',rfl,hcap',-⟩:=h'.form;rw [Ij] at *;have HR:=Fj h;have HS:=Fj h';clear h h'
 go_enter Tryz.func19,Tryz.ntmps19
 go_wp2_with fail
 go_loopw [13] (λn wr=>∃ k:Nat,k<=l.length/\n=.int .i64 k/\Evo w wr) (λn _=>l.length - (intOf n).toNat)
 case atStart=>exact ⟨0,Mj _,rfl,Evo.refl _⟩
 case round =>
  obtain ⟨k,hk,rfl,hb⟩:=hrel
  by_cases hlt:k < l.length
  ·obtain ⟨x,hd⟩:∃ x,l[k]?=some x:=⟨_,Gj hlt⟩;obtain ⟨b,off,rfl,hbl,hc⟩:=HR.out.row (i:=k) (r:=Vl.cells x) (by rw [Oj,hd]; rfl);have c0:∀ W,Evo w W->W.cell? ⟨b,off + k * 3,none⟩=some _:=hc 0 _ rfl;have c1:∀ W,Evo w W->W.cell? ⟨b,off + k * 3 + 1,none⟩=some _:=hc 1 _ rfl;have c2:∀ W,Evo w W->W.cell? ⟨b,off + k * 3 + 2,none⟩=some _:=hc 2 _ rfl;obtain ⟨b',off',rfl,hbl',hc'⟩:=HS.out.row (i:=k) (r:=Vl.cells x) (by rw [Oj,hd]; rfl);have d0:∀ W,Evo w W->W.cell? ⟨b',off' + k * 3,none⟩=some _:=hc' 0 _ rfl;have d1:∀ W,Evo w W->W.cell? ⟨b',off' + k * 3 + 1,none⟩=some _:=hc' 1 _ rfl;have d2:∀ W,Evo w W->W.cell? ⟨b',off' + k * 3 + 2,none⟩=some _:=hc' 2 _ rfl;have k0:(0:Int)<=(k:Int):=by omega
   have k1:(k:Int) < (l.length:Int):=by omega
   clear hc hc' hd
   go_wp2_with fail
   go_quiet (fail)
   go_wp2_with fail
   go_roundw
   case rel=>exact ⟨k + 1,by omega,by go_num,by (first | assumption | (exact Evo.drew (Evo.refl _)) | (exact Evo.drew (by assumption)) | (exact Evo.drewN (by assumption) _) | (exact Evo.drewN (Evo.refl _) _) | (exact Evo.trans (by assumption) ⟨by assumption⟩) | (exact Evo.alloc (by assumption) _) | (exact Evo.trans (by assumption) hE))⟩
   case measure=>simp [intOf]; omega
  ·have hkn:k=l.length:=by omega
   subst hkn;clear hlt hk
   go_wp2_with fail
   go_ret
   exact ⟨rfl,hb⟩
theorem cl_len (l:List Cl):Len 10 (fK l):=λr hr=>by obtain ⟨x,-,rfl⟩:=Rj.1 hr; rfl
theorem cl_one (l:List Cl):One (fK l):=λr hr u hu=>by
 obtain ⟨x,-,rfl⟩:=Rj.1 hr;simp at hu;rcases hu with rfl | rfl | rfl | rfl | rfl | rfl | rfl | rfl | rfl | rfl <;> rfl
theorem vlE_len (l:List Vl):Len 3 (lZ l):=λr hr=>by obtain ⟨x,-,rfl⟩:=Rj.1 hr; rfl
theorem vlE_one (l:List Vl):One (lZ l):=λr hr u hu=>by
 obtain ⟨x,-,rfl⟩:=Rj.1 hr;simp at hu;rcases hu with rfl | rfl | rfl <;> rfl
theorem CRow.sluE {P:Program} {f:FuncId} {args:Array Value} {h:Vw} {e:TypeId} {k:Nat} {l:List (List Value)} (hc:CRow P f args h e k (λ_ rows=>rows=l)):CRow P f args h e k (λv rows=>(∃ u,v=.slice (sA u) (sN u) (sC u))/\rows=l):=by
 intro a1 a2 a3 a4;refine (hc a1 a2 a3 a4).mono ?_;rintro en w' ⟨v,Bo,h1,h2,h3,h4,r,h5,rfl⟩;obtain ⟨A,c,rfl,-,-⟩:=gY h5;exact ⟨_,Bo,h1,h2,h3,h4,r,h5,⟨.slice A r.length c,rfl⟩,rfl⟩
section
variable {h:Vw} {v v':Value}
theorem c_cloneCl {l:List Cl} (hr:RS h 10 v (fK l)) (hl:l.length<=1000):CRow Tryz.prog 102 #[v] h 130 10 (λv rows=>(∃ u,v=.slice (sA u) (sN u) (sC u))/\rows=fK l) :=
 CRow.sluE (CRow.of_own (cl_len l) (clone_cal v (fK l) h.w (rs_sl hr) (cl_len l) (cl_one l) (by rw [Ij]; omega)))
theorem c_cloneVl {l:List Vl} (hr:RS h 3 v (lZ l)) (hl:l.length<=1000):CRow Tryz.prog 103 #[v] h 44 3 (λv rows=>(∃ u,v=.slice (sA u) (sN u) (sC u))/\rows=lZ l) :=
 CRow.sluE (CRow.of_own (vlE_len l) (clone_vlE v (lZ l) h.w (rs_sl hr) (vlE_len l) (vlE_one l) (by rw [Ij]; omega)))
theorem c_cloneFt {l:Env} (hr:RS h 7 v (wK l)) (hl:l.length<=1000):CRow Tryz.prog 101 #[v] h 122 7 (λv rows=>(∃ u,v=.slice (sA u) (sN u) (sC u))/\rows=wK l) :=
 CRow.sluE (CRow.of_own (fc_len l) (clone_fct v (wK l) h.w (rs_sl hr) (fc_len l) (fc_one l) (by rw [Ij]; omega)))
theorem c_equalCl {l:List Cl} (hr:RS h 10 v (fK l)) (hr':RS h 10 v' (fK l)) (hl:l.length<=1000):C0 Tryz.prog 100 #[v,v'] h (λr _=>r=.bool true) :=
 C0.of_e (equal_cal v v' l h.w (rs_sl hr) (rs_sl hr') (by omega))
theorem c_equalVl {l:List Vl} (hr:RS h 3 v (lZ l)) (hr':RS h 3 v' (lZ l)) (hl:l.length<=1000):C0 Tryz.prog 19 #[v,v'] h (λr _=>r=.bool true) :=
 C0.of_e (equal_vlE v v' l h.w (rs_sl hr) (rs_sl hr') (by omega))
end
end Go.Proofs.YthgcgciceejicaaGreatDoor
