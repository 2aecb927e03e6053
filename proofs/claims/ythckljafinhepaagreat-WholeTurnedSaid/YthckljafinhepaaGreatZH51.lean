/-
  Contract of slices.Concat at fields: two lists, one behind the other.
-/
import Derived.Test.YthckljafinhepaaGreatZH36
import Derived.Test.YthckljafinhepaaGreatZH30
import Derived.Test.YthckljafinhepaaGreatZH43
import Derived.Lib.AppendZerosOnto
import Derived.Test.YthckljafinhepaaGreatZH50
set_option maxRecDepth 100000
namespace Go.Proofs.YthckljafinhepaaGreat
open Go.RowKit
set_option linter.unusedVariables false
theorem info_fld:(Tryz.prog.info? 43).map (fun i=>(i.zero,i.size,i.bytes))=some (some (.agg #[.string ⟨#[]⟩,.int .i64 0,.int .i64 0,.int .i64 0,.int .i64 0,.int .i64 0,.string ⟨#[]⟩,.string ⟨#[]⟩,.slice none 0 0]),9,112):=by kernel_rfl
set_option maxHeartbeats 4000000 in
/-- slices.Grow at nil. -/
theorem grow_fld (n:Nat) (w:World) (hl:n * 112≤140737488355328):Calls Tryz.prog 65 #[.slice none 0 0,.int .i64 n] w (GivesOwn 43 9 [] w):=by
 have hn63:n≤140737488355328:=by omega
 obtain ⟨i0,hi0,hz0,hz1,hz2⟩:=info_parts info_fld
 have h1:¬ ((n:Int) < 0):=by omega
 rcases Nat.eq_zero_or_pos n with rfl | hpos
 ·go_enter Tryz.func65,Tryz.ntmps65
  go_wp2_with fail
  go_ret
  exact ⟨_,rfl,⟨by simp,.inl ⟨rfl,rfl⟩⟩,Evo.refl _⟩
 ·have h4:(0:Int) < (n:Int):=by omega
  have hrz:∀ ty,(Builtin.append_ #[23,3] ty #[.slice none 0 0,.int .i64 (n:Int)]).run Tryz.prog w =
    .ok (.slice (some ⟨w.heap.size,0,none⟩) n (grownCap w n 0 43)) (w.drew.alloc (.cells ((#[]:Array Value)++Builtin.zeroCells (.agg #[.string ⟨#[]⟩,.int .i64 0,.int .i64 0,.int .i64 0,.int .i64 0,.int .i64 0,.string ⟨#[]⟩,.string ⟨#[]⟩,.slice none 0 0]:Value).cells n++Builtin.zeroCells (.agg #[.string ⟨#[]⟩,.int .i64 0,.int .i64 0,.int .i64 0,.int .i64 0,.int .i64 0,.string ⟨#[]⟩,.string ⟨#[]⟩,.slice none 0 0]:Value).cells (grownCap w n 0 43 - n)) 43)):=fun ty=>by
   have h:=Lib.run_append_grow_zeros w 23 3 ty 43 i0 (.agg #[.string ⟨#[]⟩,.int .i64 0,.int .i64 0,.int .i64 0,.int .i64 0,.int .i64 0,.string ⟨#[]⟩,.string ⟨#[]⟩,.slice none 0 0]) .i64 .i64 Tryz.underlying23 Tryz.underlying3 hi0 hz0 none 0 0 [] (run_firstCells_none w.drew i0.size 0 0 0) n (by omega) (by rw [hz1]; omega) (by omega) (by omega) (by rw [hz2]; omega) (by rw [hz2]; exact growslice_fits (by omega) (by simpa using hl))
   simpa using h
  have hGn:n≤grownCap w n 0 43:=grownCap_ge w _ _ _
  have hG63:=grownCap_le_maxLen w n 0 43 (by unfold maxLen; omega)
  obtain ⟨G,hG⟩:∃ G,G=grownCap w n 0 43:=⟨_,rfl⟩
  rw [← hG] at hrz hGn hG63
  clear hG
  have hsz:((#[]:Array Value)++Builtin.zeroCells (.agg #[.string ⟨#[]⟩,.int .i64 0,.int .i64 0,.int .i64 0,.int .i64 0,.int .i64 0,.string ⟨#[]⟩,.string ⟨#[]⟩,.slice none 0 0]:Value).cells n++Builtin.zeroCells (.agg #[.string ⟨#[]⟩,.int .i64 0,.int .i64 0,.int .i64 0,.int .i64 0,.int .i64 0,.string ⟨#[]⟩,.string ⟨#[]⟩,.slice none 0 0]:Value).cells (G - n)).size=G * 9:=by
   simp [Builtin.zeroCells,Value.cells]; omega
  have hown:Own (w.drew.alloc (.cells ((#[]:Array Value)++Builtin.zeroCells (.agg #[.string ⟨#[]⟩,.int .i64 0,.int .i64 0,.int .i64 0,.int .i64 0,.int .i64 0,.string ⟨#[]⟩,.string ⟨#[]⟩,.slice none 0 0]:Value).cells n++Builtin.zeroCells (.agg #[.string ⟨#[]⟩,.int .i64 0,.int .i64 0,.int .i64 0,.int .i64 0,.int .i64 0,.string ⟨#[]⟩,.string ⟨#[]⟩,.slice none 0 0]:Value).cells (G - n)) 43)) w.heap.size 43 9 (.slice (some ⟨w.heap.size,0,none⟩) 0 G) 0 [] :=
   ⟨World.ownsRow_made w.drew _ G (by exact Nat.le_refl _) hG63 hsz⟩
  have hE:Evo w (w.drew.alloc (.cells ((#[]:Array Value)++Builtin.zeroCells (.agg #[.string ⟨#[]⟩,.int .i64 0,.int .i64 0,.int .i64 0,.int .i64 0,.int .i64 0,.string ⟨#[]⟩,.string ⟨#[]⟩,.slice none 0 0]:Value).cells n++Builtin.zeroCells (.agg #[.string ⟨#[]⟩,.int .i64 0,.int .i64 0,.int .i64 0,.int .i64 0,.int .i64 0,.string ⟨#[]⟩,.string ⟨#[]⟩,.slice none 0 0]:Value).cells (G - n)) 43)):=(Evo.refl w).drew.alloc _
  obtain ⟨W,hW⟩:∃ W,W=w.drew.alloc (.cells ((#[]:Array Value)++Builtin.zeroCells (.agg #[.string ⟨#[]⟩,.int .i64 0,.int .i64 0,.int .i64 0,.int .i64 0,.int .i64 0,.string ⟨#[]⟩,.string ⟨#[]⟩,.slice none 0 0]:Value).cells n++Builtin.zeroCells (.agg #[.string ⟨#[]⟩,.int .i64 0,.int .i64 0,.int .i64 0,.int .i64 0,.int .i64 0,.string ⟨#[]⟩,.string ⟨#[]⟩,.slice none 0 0]:Value).cells (G - n)) 43):=⟨_,rfl⟩
  rw [← hW] at hrz hown hE
  have HO:=Lib.hid hown
  unfold maxLen at hG63
  clear hW hsz hown hpos
  go_enter Tryz.func65,Tryz.ntmps65
  go_wp2_with (at_builtin; refine Lib.wpList_append_run _ rfl _ _ _ _ rfl _ _ rfl rfl _ _ (hrz _) ?_)
  all_goals (go_ret; exact ⟨_,rfl,HO.out,hE⟩)
set_option maxHeartbeats 4000000 in
theorem concat_fld (v va vb:Value) (la lb:List (List Value)) (w:World) (h:Sl w 1 v [[va],[vb]]) (ha:Sl w 9 va la) (hb:Sl w 9 vb lb) (ka:Len 9 la) (kb:Len 9 lb) (oa:One la) (ob:One lb) (hl:(la.length + lb.length) * 112≤140737488355328) :
  Calls Tryz.prog 26 #[v] w (GivesOwn 43 9 (la++lb) w):=by
 obtain ⟨A,cap,rfl,hcap,hmax,-⟩:=h.form
 obtain ⟨b,off,rfl,hbl,hc0⟩:=h.row (i:=0) (r:=[va]) rfl
 obtain ⟨b',off',e',-,hc1⟩:=h.row (i:=1) (r:=[vb]) rfl
 simp only [Option.some.injEq,Addr.mk.injEq] at e'
 obtain ⟨rfl,rfl,-⟩:=e'
 have c0:∀ W,Evo w W→W.cell? ⟨b,off,none⟩=some va:=by simpa using hc0 0 _ rfl
 have c1:∀ W,Evo w W→W.cell? ⟨b,off + 1,none⟩=some vb:=by simpa using hc1 0 _ rfl
 obtain ⟨A1,cap1,rfl,hcap1,hmax1,-⟩:=ha.form
 obtain ⟨A2,cap2,rfl,hcap2,hmax2,-⟩:=hb.form
 have HA:=Lib.hid ha
 have HB:=Lib.hid hb
 have KA:=Lib.hid ka
 have KB:=Lib.hid kb
 have OA:=Lib.hid oa
 have OB:=Lib.hid ob
 have hg:=fun W=>grow_fld (la.length + lb.length) W (by omega)
 simp only [Int.natCast_add] at hg
 have HG:=Lib.hid hg
 clear hg
 have l0:la.length≤140737488355328:=by omega
 have l1:lb.length≤140737488355328:=by omega
 clear h ha hb ka kb oa ob hc0 hc1
 go_enter Tryz.func26,Tryz.ntmps26
 go_wp2_with fail
 go_loopw [3,11] (fun s n wr=>wr=w∧((s=.int .i64 0∧n=.int .i64 0)∨(s=.int .i64 la.length∧n=.int .i64 1)∨(s=.int .i64 ((la.length:Int) + (lb.length:Int))∧n=.int .i64 2))) (fun _ n _=>2 - (intOf n).toNat)
 case atStart=>exact ⟨rfl,.inl ⟨rfl,rfl⟩⟩
 case round =>
  obtain ⟨rfl,hrel⟩:=hrel
  have e0:=Evo.refl wr
  rcases hrel with ⟨rfl,rfl⟩ | ⟨rfl,rfl⟩ | ⟨rfl,rfl⟩
  ·go_wp2_with fail
   go_roundw
   case rel=>exact ⟨trivial,.inr (.inl ⟨rfl,rfl⟩)⟩
   case measure=>simp [intOf]
  ·go_wp2_with fail
   go_roundw
   case rel=>exact ⟨trivial,.inr (.inr ⟨rfl,rfl⟩)⟩
   case measure=>simp [intOf]
  ·go_wp2_with fail
   obtain ⟨wo,rfl⟩:∃ wo:World,wo=wr:=⟨_,rfl⟩
   with_reducible refine (HG.out _).mono ?_
   rintro e u1 ⟨v0,rfl,h0,hE⟩
   have HO:=Lib.hid h0
   clear h0
   go_wp2_with fail
   go_loopw [6,27] (fun v n wr=>∃ (k:Nat) (m:List (List Value)),n=.int .i64 k∧Own wr wo.heap.size 43 9 v m.length m.flatten∧Evo wo wr∧((k=0∧m=[])∨(k=1∧m=la)∨(k=2∧m=la++lb))) (fun _ n _=>2 - (intOf n).toNat)
   case atStart=>exact ⟨0,[],rfl,HO.out,hE,.inl ⟨rfl,rfl⟩⟩
   case round =>
    obtain ⟨k,m,rfl,hown,e1,hm⟩:=hrel
    have HN:=Lib.hid hown
    clear hown hE HO
    rcases hm with ⟨rfl,rfl⟩ | ⟨rfl,rfl⟩ | ⟨rfl,rfl⟩
    ·go_wp2_with (at_builtin; refine wpList_append_rows rfl (.tmp 31) (.tmp 32) 23 rfl 43 _ 9 112 Tryz.underlying23 info_fld rfl (by decide) wo e1 [] la _ _ rfl rfl HN.out (HA.out.at e1) KA.out OA.out ?c1 ?c2 ?_)
     case c1=>simp; omega
     case c2=>simp; omega
     intro v' w1 hown e2 hg
     have HM:=Lib.hid hown
     clear hown hg e1
     go_wp2_with fail
     go_roundw
     case rel=>exact ⟨1,la,rfl,by simpa using HM.out,e2,.inr (.inl ⟨rfl,rfl⟩)⟩
     case measure=>simp [intOf]
    ·go_wp2_with (at_builtin; refine wpList_append_rows rfl (.tmp 31) (.tmp 32) 23 rfl 43 _ 9 112 Tryz.underlying23 info_fld rfl (by decide) wo e1 m lb _ _ rfl rfl HN.out (HB.out.at e1) KB.out OB.out ?c1 ?c2 ?_)
     case c1=>omega
     case c2=>omega
     intro v' w1 hown e2 hg
     have HM:=Lib.hid hown
     clear hown hg e1
     go_wp2_with fail
     go_roundw
     case rel=>exact ⟨2,m++lb,rfl,by simpa using HM.out,e2,.inr (.inr ⟨rfl,rfl⟩)⟩
     case measure=>simp [intOf]
    ·go_wp2_with fail
     go_ret
     exact ⟨_,rfl,by simpa using HN.out,e1⟩
theorem fd_len {fs:List Fd} {vs:List Value}:Len 9 (fdRows fs vs):=fun r hr=>by
 obtain ⟨i,hi⟩:=List.getElem?_of_mem hr
 rw [show (fdRows fs vs)[i]?=(List.zipWith fdRow fs vs)[i]? from rfl,List.getElem?_zipWith] at hi
 cases h1:fs[i]? <;> cases h2:vs[i]? <;> simp [h1,h2] at hi
 subst hi; rfl
theorem AllArgs.app {h:Vw}:∀ {l m:List Ex} {us vs:List Value},AllArgs h l us→AllArgs h m vs→AllArgs h (l++m) (us++vs)
 | [],m,us,vs,k1,k2=>by unfold AllArgs at k1; subst k1; exact k2
 | x :: l,m,us,vs,k1,k2=>by
  unfold AllArgs at k1
  obtain ⟨u,us',rfl,q1,q2⟩:=k1
  show AllArgs h (x :: (l++m)) (u :: (us'++vs))
  unfold AllArgs
  exact ⟨_,_,rfl,q1,AllArgs.app q2 k2⟩
theorem AllArgs.drop' {h:Vw}:∀ (i:Nat) {l:List Ex} {vs:List Value},AllArgs h l vs→AllArgs h (l.drop i) (vs.drop i)
 | 0,l,vs,k=>k
 | i + 1,[],vs,k=>by unfold AllArgs at k; subst k; rw [List.drop_nil,List.drop_nil]; unfold AllArgs; rfl
 | i + 1,x :: l,vs,k=>by
  unfold AllArgs at k
  obtain ⟨u,us',rfl,q1,q2⟩:=k
  rw [List.drop_succ_cons,List.drop_succ_cons]
  exact AllArgs.drop' i q2
/-- Two lists of fields, one behind the other. -/
theorem c_concatF {h:Vw} {v va vb:Value} {la lb:List Fd} {us ws:List Value} (hr:RS h 1 v [[va],[vb]]) (ha:RS h 9 va (fdRows la us)) (hb:RS h 9 vb (fdRows lb ws)) (sa:AllSrc h la us) (sb:AllSrc h lb ws) (ia:∀ u∈us,.slice (sA u) (sN u) (sC u)=u) (ib:∀ u∈ws,.slice (sA u) (sN u) (sC u)=u) (hl:la.length + lb.length≤1000) :
  C0 Tryz.prog 26 #[v] h (fun r h'=>∃ u,r=.slice (sA u) (sN u) (sC u)∧IsFds h' (.slice (sA u) (sN u) (sC u)) (la++lb)):=by
 have hc:=concat_fld v va vb (fdRows la us) (fdRows lb ws) h.w (Sl.of_rs hr) (Sl.of_rs ha) (Sl.of_rs hb) fd_len fd_len (fun r hr=>fdRows_one la us ia r hr) (fun r hr=>fdRows_one lb ws ib r hr) (by rw [fdRows_len sa.len,fdRows_len sb.len]; omega)
 have e:fdRows la us++fdRows lb ws=fdRows (la++lb) (us++ws):=(List.zipWith_append sa.len.symm).symm
 rw [e] at hc
 refine (C0.of_own fd_len hc).mono fun r h' s=>?_
 rintro ⟨u,rfl,k⟩
 refine ⟨u,rfl,us++ws,k,?_⟩
 unfold AllSrc
 rw [List.map_append]
 exact AllArgs.app (sa.sees s) (sb.sees s)
theorem rot_mem {α:Type} {l:List α} {k:Nat} {x:α}:x∈l.drop k++l.take k↔x∈l:=by
 rw [List.mem_append,or_comm,← List.mem_append,List.take_append_drop]
theorem rot_nodup {l:List ByteArray} {k:Nat} (h:l.Nodup):(l.drop k++l.take k).Nodup:=by
 have:(l.take k++l.drop k).Nodup:=by rw [List.take_append_drop]; exact h
 exact (List.perm_append_comm.nodup_iff).1 this
end Go.Proofs.YthckljafinhepaaGreat
