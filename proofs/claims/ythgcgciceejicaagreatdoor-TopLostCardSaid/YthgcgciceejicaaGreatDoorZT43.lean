/-
  slices.Clone at facts: a row of the caller's own.
-/
import Derived.Test.YthgcgciceejicaaGreatDoorZT37
namespace Go.Proofs.YthgcgciceejicaaGreatDoor
open Go.RowKit
theorem info_fct:(Tryz.prog.info? 122).map (λi=>(i.zero,i.size,i.bytes))=some (some (.agg #[.string ⟨#[]⟩,.int .i64 0,.int .i64 0,.string ⟨#[]⟩,.int .i64 0,.int .i64 0,.string ⟨#[]⟩]),7,80):=by kernel_rfl
set_option maxRecDepth 100000 in
set_option maxHeartbeats 2000000 in
theorem clone_fct (v:Value) (l:List (List Value)) (w:World) (h:Sl w 7 v l) (hk:Len 7 l) (h1:One l) (hl:l.length * 80<=140737488355328) :
  Calls Tryz.prog 101 #[v] w (oJ 122 7 l w):=by
 have q22:∀ (w:World) (a:Option Addr) (n c n' c':Nat),(binOp .eql 32 (.slice a n c) (.slice none n' c')).run Tryz.prog w=.ok (.bool a.isNone) w:=λw a n c n' c'=>Lib.run_eql_slice_nil w _ _ a n c n' c' Tryz.underlying32;obtain ⟨A,cap,rfl,c1,c2,hA⟩:=h.form
 cases A with
 | none =>
  obtain rfl:=hA rfl;have h0:l.length=0:=by omega
  obtain rfl:=Wq.1 h0
  go_enter Tryz.func101,Tryz.ntmps101
  go_wp2_with fail
  go_ret
  exact ⟨_,rfl,⟨by simp,.inl ⟨rfl,rfl⟩⟩,Evo.refl _⟩
 | some a =>
  have HR:=Fj h;have HK:=Fj hk;have H1:=Fj h1;clear h hk h1
  go_enter Tryz.func101,Tryz.ntmps101
  go_wp2_with (at_builtin; refine uZ rfl (.tmp 5) (.tmp 6) 32 rfl 122 _ 7 80 Tryz.underlying32 info_fct rfl (by decide) w ((Evo.refl _).alloc _) [] l _ _ rfl rfl ⟨World.ownsRow_made w #[] 0 (Hj _) (Mj _) (by simp)⟩ (HR.out.at ((Evo.refl _).alloc _)) HK.out H1.out ?c1 ?c2 ?_)
  case c1=>simp; omega
  case c2=>simpa using hl
  intro v' w1 hown hbl hg;have HW:=Fj (⟨hown,hbl⟩:Own w1 w.heap.size 122 7 v' ([]++l).length ([]++l).flatten/\Evo w w1);clear hown hg hbl
  go_wp2_with fail
  go_ret
  exact ⟨_,rfl,HW.out.1,HW.out.2⟩
theorem rs_sl {h:Vw} {k:Nat} {v:Value} {l:List (List Value)} (r:RS h k v l):Sl h.w k v l:=by
 rcases r with r | ⟨b,off,cap,e,h1,h2,hb,-,hc⟩
 ·exact .inl r
 ·exact .inr ⟨b,off,cap,e,h1,h2,hb,λi r hi j u hj=>hc i r hi j u hj⟩
theorem fc_len (l:Env):Len 7 (wK l):=λr hr=>by obtain ⟨p,-,rfl⟩:=Rj.1 hr; rfl
theorem fc_one (l:Env):One (wK l):=λr hr u hu=>by
 obtain ⟨p,-,rfl⟩:=Rj.1 hr;simp at hu;rcases hu with rfl | rfl | rfl | rfl | rfl | rfl | rfl <;> rfl
end Go.Proofs.YthgcgciceejicaaGreatDoor
