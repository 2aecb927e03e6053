/-
  Contracts of slices.Concat at []api.Letter: two, three slices.
-/
import Derived.Test.YtmoahpojchndiaaGreatZV38
import Derived.Test.YtmoahpojchndiaaGreatZV47
import Derived.Test.YtmoahpojchndiaaGreatZV40
import Derived.Lib.AppendZerosOnto
set_option maxRecDepth 100000
namespace Go.Proofs.YtmoahpojchndiaaGreat
open Go.RowKit
theorem info_ltr:(Tryz.prog.info? 67).map (fun i=>(i.zero,i.size,i.bytes))=some (some (.agg #[.string ⟨#[]⟩,.int .i64 0,.int .i64 0,.int .i64 0,.string ⟨#[]⟩,.int .i64 0,.int .i64 0,.string ⟨#[]⟩]),8,88):=by kernel_rfl
set_option maxHeartbeats 4000000 in
theorem grow_ltr (n:Nat) (w:World) (hl:n * 88≤140737488355328):Calls Tryz.prog 103 #[.slice none 0 0,.int .i64 n] w (GivesOwn 67 8 [] w):=by
 have hn63:n≤140737488355328:=by omega
 obtain ⟨i0,hi0,hz0,hz1,hz2⟩:=info_parts info_ltr
 have h1:¬ ((n:Int) < 0):=by omega
 rcases Nat.eq_zero_or_pos n with rfl | hpos
 ·go_enter Tryz.func103,Tryz.ntmps103
  go_wp2_with fail
  go_ret
  exact ⟨_,rfl,⟨by simp,.inl ⟨rfl,rfl⟩⟩,Evo.refl _⟩
 ·have h4:(0:Int) < (n:Int):=by omega
  have hrz:∀ ty,(Builtin.append_ #[35,3] ty #[.slice none 0 0,.int .i64 (n:Int)]).run Tryz.prog w =
    .ok (.slice (some ⟨w.heap.size,0,none⟩) n (grownCap w n 0 67)) (w.drew.alloc (.cells ((#[]:Array Value)++Builtin.zeroCells (.agg #[.string ⟨#[]⟩,.int .i64 0,.int .i64 0,.int .i64 0,.string ⟨#[]⟩,.int .i64 0,.int .i64 0,.string ⟨#[]⟩]:Value).cells n++Builtin.zeroCells (.agg #[.string ⟨#[]⟩,.int .i64 0,.int .i64 0,.int .i64 0,.string ⟨#[]⟩,.int .i64 0,.int .i64 0,.string ⟨#[]⟩]:Value).cells (grownCap w n 0 67 - n)) 67)):=fun ty=>by
   have h:=Lib.run_append_grow_zeros w 35 3 ty 67 i0 (.agg #[.string ⟨#[]⟩,.int .i64 0,.int .i64 0,.int .i64 0,.string ⟨#[]⟩,.int .i64 0,.int .i64 0,.string ⟨#[]⟩]) .i64 .i64 Tryz.underlying35 Tryz.underlying3 hi0 hz0 none 0 0 [] (run_firstCells_none w.drew i0.size 0 0 0) n (by omega) (by rw [hz1]; omega) (by omega) (by omega) (by rw [hz2]; omega) (by rw [hz2]; exact growslice_fits (by omega) (by simpa using hl))
   simpa using h
  have hGn:n≤grownCap w n 0 67:=grownCap_ge w _ _ _
  have hG63:=grownCap_le_maxLen w n 0 67 (by unfold maxLen; omega)
  obtain ⟨G,hG⟩:∃ G,G=grownCap w n 0 67:=⟨_,rfl⟩
  rw [← hG] at hrz hGn hG63
  clear hG
  have hsz:((#[]:Array Value)++Builtin.zeroCells (.agg #[.string ⟨#[]⟩,.int .i64 0,.int .i64 0,.int .i64 0,.string ⟨#[]⟩,.int .i64 0,.int .i64 0,.string ⟨#[]⟩]:Value).cells n++Builtin.zeroCells (.agg #[.string ⟨#[]⟩,.int .i64 0,.int .i64 0,.int .i64 0,.string ⟨#[]⟩,.int .i64 0,.int .i64 0,.string ⟨#[]⟩]:Value).cells (G - n)).size=G * 8:=by
   simp [Builtin.zeroCells,Value.cells]; omega
  have hown:Own (w.drew.alloc (.cells ((#[]:Array Value)++Builtin.zeroCells (.agg #[.string ⟨#[]⟩,.int .i64 0,.int .i64 0,.int .i64 0,.string ⟨#[]⟩,.int .i64 0,.int .i64 0,.string ⟨#[]⟩]:Value).cells n++Builtin.zeroCells (.agg #[.string ⟨#[]⟩,.int .i64 0,.int .i64 0,.int .i64 0,.string ⟨#[]⟩,.int .i64 0,.int .i64 0,.string ⟨#[]⟩]:Value).cells (G - n)) 67)) w.heap.size 67 8 (.slice (some ⟨w.heap.size,0,none⟩) 0 G) 0 [] :=
   ⟨World.ownsRow_made w.drew _ G (by exact Nat.le_refl _) hG63 hsz⟩
  have hE:Evo w (w.drew.alloc (.cells ((#[]:Array Value)++Builtin.zeroCells (.agg #[.string ⟨#[]⟩,.int .i64 0,.int .i64 0,.int .i64 0,.string ⟨#[]⟩,.int .i64 0,.int .i64 0,.string ⟨#[]⟩]:Value).cells n++Builtin.zeroCells (.agg #[.string ⟨#[]⟩,.int .i64 0,.int .i64 0,.int .i64 0,.string ⟨#[]⟩,.int .i64 0,.int .i64 0,.string ⟨#[]⟩]:Value).cells (G - n)) 67)):=(Evo.refl w).drew.alloc _
  obtain ⟨W,hW⟩:∃ W,W=w.drew.alloc (.cells ((#[]:Array Value)++Builtin.zeroCells (.agg #[.string ⟨#[]⟩,.int .i64 0,.int .i64 0,.int .i64 0,.string ⟨#[]⟩,.int .i64 0,.int .i64 0,.string ⟨#[]⟩]:Value).cells n++Builtin.zeroCells (.agg #[.string ⟨#[]⟩,.int .i64 0,.int .i64 0,.int .i64 0,.string ⟨#[]⟩,.int .i64 0,.int .i64 0,.string ⟨#[]⟩]:Value).cells (G - n)) 67):=⟨_,rfl⟩
  rw [← hW] at hrz hown hE
  have HO:=Lib.hid hown
  unfold maxLen at hG63
  clear hW hsz hown hpos
  go_enter Tryz.func103,Tryz.ntmps103
  go_wp2_with (at_builtin; refine Lib.wpList_append_run _ rfl _ _ _ _ rfl _ _ rfl rfl _ _ (hrz _) ?_)
  all_goals (go_ret; exact ⟨_,rfl,HO.out,hE⟩)
set_option maxHeartbeats 4000000 in
theorem concat_ltr (v va vb:Value) (la lb:List (List Value)) (w:World) (h:Sl w 1 v [[va],[vb]]) (ha:Sl w 8 va la) (hb:Sl w 8 vb lb) (ka:Len 8 la) (kb:Len 8 lb) (oa:One la) (ob:One lb) (hl:(la.length + lb.length) * 88≤140737488355328) :
  Calls Tryz.prog 65 #[v] w (GivesOwn 67 8 (la++lb) w):=by
 obtain ⟨A,cap,rfl,hcap,hmax,-⟩:=h.form
 obtain ⟨b,off,rfl,hbl,hc0⟩:=h.row (i:=0) (r:=[va]) rfl
 obtain ⟨b',off',e',-,hc1⟩:=h.row (i:=1) (r:=[vb]) rfl
 simp only [Option.some.injEq,Addr.mk.injEq] at e'
 obtain ⟨rfl,rfl,-⟩:=e'
 have c0:∀ W,Evo w W→W.cell? ⟨b,off,none⟩=some va:=by simpa using hc0 0 _ rfl
 have c1:∀ W,Evo w W→W.cell? ⟨b,off + 1,none⟩=some vb:=by simpa using hc1 0 _ rfl
 obtain ⟨A1,cap1,rfl,hcap1,hmax1,-⟩:=ha.form
 obtain ⟨A2,cap2,rfl,hcap2,hmax2,-⟩:=hb.form
 have HA:=Lib.hid ha
 have HB:=Lib.hid hb
 have KA:=Lib.hid ka
 have KB:=Lib.hid kb
 have OA:=Lib.hid oa
 have OB:=Lib.hid ob
 have hg:=fun W=>grow_ltr (la.length + lb.length) W (by omega)
 simp only [Int.natCast_add] at hg
 have HG:=Lib.hid hg
 clear hg
 have l0:la.length≤140737488355328:=by omega
 have l1:lb.length≤140737488355328:=by omega
 clear h ha hb ka kb oa ob hc0 hc1
 go_enter Tryz.func65,Tryz.ntmps65
 go_wp2_with fail
 go_loopw [3,11] (fun s n wr=>wr=w∧((s=.int .i64 0∧n=.int .i64 0)∨(s=.int .i64 la.length∧n=.int .i64 1)∨(s=.int .i64 ((la.length:Int) + (lb.length:Int))∧n=.int .i64 2))) (fun _ n _=>2 - (intOf n).toNat)
 case atStart=>exact ⟨rfl,.inl ⟨rfl,rfl⟩⟩
 case round =>
  obtain ⟨rfl,hrel⟩:=hrel
  have e0:=Evo.refl wr
  rcases hrel with ⟨rfl,rfl⟩ | ⟨rfl,rfl⟩ | ⟨rfl,rfl⟩
  ·go_wp2_with fail
   go_roundw
   case rel=>exact ⟨trivial,.inr (.inl ⟨rfl,rfl⟩)⟩
   case measure=>simp [intOf]
  ·go_wp2_with fail
   go_roundw
   case rel=>exact ⟨trivial,.inr (.inr ⟨rfl,rfl⟩)⟩
   case measure=>simp [intOf]
  ·go_wp2_with fail
   obtain ⟨wo,rfl⟩:∃ wo:World,wo=wr:=⟨_,rfl⟩
   with_reducible refine (HG.out _).mono ?_
   rintro e u1 ⟨v0,rfl,h0,hE⟩
   have HO:=Lib.hid h0
   clear h0
   go_wp2_with fail
   go_loopw [6,27] (fun v n wr=>∃ (k:Nat) (m:List (List Value)),n=.int .i64 k∧Own wr wo.heap.size 67 8 v m.length m.flatten∧Evo wo wr∧((k=0∧m=[])∨(k=1∧m=la)∨(k=2∧m=la++lb))) (fun _ n _=>2 - (intOf n).toNat)
   case atStart=>exact ⟨0,[],rfl,HO.out,hE,.inl ⟨rfl,rfl⟩⟩
   case round =>
    obtain ⟨k,m,rfl,hown,e1,hm⟩:=hrel
    have HN:=Lib.hid hown
    clear hown hE HO
    rcases hm with ⟨rfl,rfl⟩ | ⟨rfl,rfl⟩ | ⟨rfl,rfl⟩
    ·go_wp2_with (at_builtin; refine lZ rfl (.tmp 31) (.tmp 32) 35 rfl 67 _ 8 88 Tryz.underlying35 info_ltr rfl (by decide) wo e1 [] la _ _ rfl rfl HN.out (HA.out.at e1) KA.out OA.out ?c1 ?c2 ?_)
     case c1=>simp; omega
     case c2=>simp; omega
     intro v' w1 hown e2 hg
     have HM:=Lib.hid hown
     clear hown hg e1
     go_wp2_with fail
     go_roundw
     case rel=>exact ⟨1,la,rfl,by simpa using HM.out,e2,.inr (.inl ⟨rfl,rfl⟩)⟩
     case measure=>simp [intOf]
    ·go_wp2_with (at_builtin; refine lZ rfl (.tmp 31) (.tmp 32) 35 rfl 67 _ 8 88 Tryz.underlying35 info_ltr rfl (by decide) wo e1 m lb _ _ rfl rfl HN.out (HB.out.at e1) KB.out OB.out ?c1 ?c2 ?_)
     case c1=>omega
     case c2=>omega
     intro v' w1 hown e2 hg
     have HM:=Lib.hid hown
     clear hown hg e1
     go_wp2_with fail
     go_roundw
     case rel=>exact ⟨2,m++lb,rfl,by simpa using HM.out,e2,.inr (.inr ⟨rfl,rfl⟩)⟩
     case measure=>simp [intOf]
    ·go_wp2_with fail
     go_ret
     exact ⟨_,rfl,by simpa using HN.out,e1⟩
theorem lts_len (l:List Lt):Len 8 (gW l):=fun r hr=>by
 obtain ⟨x,-,rfl⟩:=List.mem_map.1 hr
 rfl
theorem lts_one (l:List Lt):One (gW l):=fun r hr=>by
 obtain ⟨x,-,rfl⟩:=List.mem_map.1 hr
 simp [Lt.cells,Value.oneCell']
section
variable {h:Vw} {v va vb vc:Value} {la lb lc:List Lt}
theorem c_concatT (hr:RS h 1 v [[va],[vb]]) (ha:RS h 8 va (gW la)) (hb:RS h 8 vb (gW lb)) (hl:la.length + lb.length≤1000000):C0 Tryz.prog 65 #[v] h (fun r h'=>∃ u,r=(.slice (sA u) (sN u) (sC u))∧RS h' 8 ((.slice (sA u) (sN u) (sC u))) (gW (la++lb))):=by
 have:=concat_ltr v va vb (gW la) (gW lb) h.w (Sl.of_rs hr) (Sl.of_rs ha) (Sl.of_rs hb) (lts_len _) (lts_len _) (lts_one _) (lts_one _) (by simp; omega)
 rw [show gW la++gW lb=gW (la++lb) by simp] at this
 exact C0.of_own (lts_len _) this
end
end Go.Proofs.YtmoahpojchndiaaGreat
