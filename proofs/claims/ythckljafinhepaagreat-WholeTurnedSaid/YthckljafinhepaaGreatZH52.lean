/-
  For all raw things and numbers WholeTurned returns true: the values of fields do not depend on the order of the fields. No condition.
-/
import Derived.Test.YthckljafinhepaaGreatZH48
import Derived.Test.YthckljafinhepaaGreatZH51
import Derived.Test.YthckljafinhepaaGreatZH45
import Derived.Test.YthckljafinhepaaGreatZH50
set_option maxRecDepth 100000
namespace Go.Proofs.YthckljafinhepaaGreat
open Go.RowKit
set_option linter.unusedVariables false
theorem vl_len (l:List Vl):Len 3 (vlRows l):=fun r hr=>by obtain ⟨x,-,rfl⟩:=List.mem_map.1 hr; rfl
theorem vl_one (l:List Vl):One (vlRows l):=fun r hr u hu=>by
 obtain ⟨x,-,rfl⟩:=List.mem_map.1 hr
 rcases List.mem_cons.1 hu with rfl | hu
 ·rfl
 ·rcases List.mem_cons.1 hu with rfl | hu
  ·rfl
  ·rw [List.mem_singleton.1 hu]; rfl
theorem info_vl:(Tryz.prog.info? 38).map (fun i=>(i.zero,i.size,i.bytes))=some (some (.agg #[.int .i64 0,.int .i64 0,.string ⟨#[]⟩]),3,32):=by kernel_rfl
set_option maxHeartbeats 4000000 in
/-- slices.Grow at nil. -/
theorem grow_vl (n:Nat) (w:World) (hl:n * 32≤140737488355328):Calls Tryz.prog 66 #[.slice none 0 0,.int .i64 n] w (GivesOwn 38 3 [] w):=by
 have hn63:n≤140737488355328:=by omega
 obtain ⟨i0,hi0,hz0,hz1,hz2⟩:=info_parts info_vl
 have h1:¬ ((n:Int) < 0):=by omega
 rcases Nat.eq_zero_or_pos n with rfl | hpos
 ·go_enter Tryz.func66,Tryz.ntmps66
  go_wp2_with fail
  go_ret
  exact ⟨_,rfl,⟨by simp,.inl ⟨rfl,rfl⟩⟩,Evo.refl _⟩
 ·have h4:(0:Int) < (n:Int):=by omega
  have hrz:∀ ty,(Builtin.append_ #[32,3] ty #[.slice none 0 0,.int .i64 (n:Int)]).run Tryz.prog w =
    .ok (.slice (some ⟨w.heap.size,0,none⟩) n (grownCap w n 0 38)) (w.drew.alloc (.cells ((#[]:Array Value)++Builtin.zeroCells (.agg #[.int .i64 0,.int .i64 0,.string ⟨#[]⟩]:Value).cells n++Builtin.zeroCells (.agg #[.int .i64 0,.int .i64 0,.string ⟨#[]⟩]:Value).cells (grownCap w n 0 38 - n)) 38)):=fun ty=>by
   have h:=Lib.run_append_grow_zeros w 32 3 ty 38 i0 (.agg #[.int .i64 0,.int .i64 0,.string ⟨#[]⟩]) .i64 .i64 Tryz.underlying32 Tryz.underlying3 hi0 hz0 none 0 0 [] (run_firstCells_none w.drew i0.size 0 0 0) n (by omega) (by rw [hz1]; omega) (by omega) (by omega) (by rw [hz2]; omega) (by rw [hz2]; exact growslice_fits (by omega) (by simpa using hl))
   simpa using h
  have hGn:n≤grownCap w n 0 38:=grownCap_ge w _ _ _
  have hG63:=grownCap_le_maxLen w n 0 38 (by unfold maxLen; omega)
  obtain ⟨G,hG⟩:∃ G,G=grownCap w n 0 38:=⟨_,rfl⟩
  rw [← hG] at hrz hGn hG63
  clear hG
  have hsz:((#[]:Array Value)++Builtin.zeroCells (.agg #[.int .i64 0,.int .i64 0,.string ⟨#[]⟩]:Value).cells n++Builtin.zeroCells (.agg #[.int .i64 0,.int .i64 0,.string ⟨#[]⟩]:Value).cells (G - n)).size=G * 3:=by
   simp [Builtin.zeroCells,Value.cells]; omega
  have hown:Own (w.drew.alloc (.cells ((#[]:Array Value)++Builtin.zeroCells (.agg #[.int .i64 0,.int .i64 0,.string ⟨#[]⟩]:Value).cells n++Builtin.zeroCells (.agg #[.int .i64 0,.int .i64 0,.string ⟨#[]⟩]:Value).cells (G - n)) 38)) w.heap.size 38 3 (.slice (some ⟨w.heap.size,0,none⟩) 0 G) 0 [] :=
   ⟨World.ownsRow_made w.drew _ G (by exact Nat.le_refl _) hG63 hsz⟩
  have hE:Evo w (w.drew.alloc (.cells ((#[]:Array Value)++Builtin.zeroCells (.agg #[.int .i64 0,.int .i64 0,.string ⟨#[]⟩]:Value).cells n++Builtin.zeroCells (.agg #[.int .i64 0,.int .i64 0,.string ⟨#[]⟩]:Value).cells (G - n)) 38)):=(Evo.refl w).drew.alloc _
  obtain ⟨W,hW⟩:∃ W,W=w.drew.alloc (.cells ((#[]:Array Value)++Builtin.zeroCells (.agg #[.int .i64 0,.int .i64 0,.string ⟨#[]⟩]:Value).cells n++Builtin.zeroCells (.agg #[.int .i64 0,.int .i64 0,.string ⟨#[]⟩]:Value).cells (G - n)) 38):=⟨_,rfl⟩
  rw [← hW] at hrz hown hE
  have HO:=Lib.hid hown
  unfold maxLen at hG63
  clear hW hsz hown hpos
  go_enter Tryz.func66,Tryz.ntmps66
  go_wp2_with (at_builtin; refine Lib.wpList_append_run _ rfl _ _ _ _ rfl _ _ rfl rfl _ _ (hrz _) ?_)
  all_goals (go_ret; exact ⟨_,rfl,HO.out,hE⟩)
set_option maxHeartbeats 4000000 in
theorem concat_vl (v va vb:Value) (la lb:List (List Value)) (w:World) (h:Sl w 1 v [[va],[vb]]) (ha:Sl w 3 va la) (hb:Sl w 3 vb lb) (ka:Len 3 la) (kb:Len 3 lb) (oa:One la) (ob:One lb) (hl:(la.length + lb.length) * 32≤140737488355328) :
  Calls Tryz.prog 28 #[v] w (GivesOwn 38 3 (la++lb) w):=by
 obtain ⟨A,cap,rfl,hcap,hmax,-⟩:=h.form
 obtain ⟨b,off,rfl,hbl,hc0⟩:=h.row (i:=0) (r:=[va]) rfl
 obtain ⟨b',off',e',-,hc1⟩:=h.row (i:=1) (r:=[vb]) rfl
 simp only [Option.some.injEq,Addr.mk.injEq] at e'
 obtain ⟨rfl,rfl,-⟩:=e'
 have c0:∀ W,Evo w W→W.cell? ⟨b,off,none⟩=some va:=by simpa using hc0 0 _ rfl
 have c1:∀ W,Evo w W→W.cell? ⟨b,off + 1,none⟩=some vb:=by simpa using hc1 0 _ rfl
 obtain ⟨A1,cap1,rfl,hcap1,hmax1,-⟩:=ha.form
 obtain ⟨A2,cap2,rfl,hcap2,hmax2,-⟩:=hb.form
 have HA:=Lib.hid ha
 have HB:=Lib.hid hb
 have KA:=Lib.hid ka
 have KB:=Lib.hid kb
 have OA:=Lib.hid oa
 have OB:=Lib.hid ob
 have hg:=fun W=>grow_vl (la.length + lb.length) W (by omega)
 simp only [Int.natCast_add] at hg
 have HG:=Lib.hid hg
 clear hg
 have l0:la.length≤140737488355328:=by omega
 have l1:lb.length≤140737488355328:=by omega
 clear h ha hb ka kb oa ob hc0 hc1
 go_enter Tryz.func28,Tryz.ntmps28
 go_wp2_with fail
 go_loopw [3,11] (fun s n wr=>wr=w∧((s=.int .i64 0∧n=.int .i64 0)∨(s=.int .i64 la.length∧n=.int .i64 1)∨(s=.int .i64 ((la.length:Int) + (lb.length:Int))∧n=.int .i64 2))) (fun _ n _=>2 - (intOf n).toNat)
 case atStart=>exact ⟨rfl,.inl ⟨rfl,rfl⟩⟩
 case round =>
  obtain ⟨rfl,hrel⟩:=hrel
  have e0:=Evo.refl wr
  rcases hrel with ⟨rfl,rfl⟩ | ⟨rfl,rfl⟩ | ⟨rfl,rfl⟩
  ·go_wp2_with fail
   go_roundw
   case rel=>exact ⟨trivial,.inr (.inl ⟨rfl,rfl⟩)⟩
   case measure=>simp [intOf]
  ·go_wp2_with fail
   go_roundw
   case rel=>exact ⟨trivial,.inr (.inr ⟨rfl,rfl⟩)⟩
   case measure=>simp [intOf]
  ·go_wp2_with fail
   obtain ⟨wo,rfl⟩:∃ wo:World,wo=wr:=⟨_,rfl⟩
   with_reducible refine (HG.out _).mono ?_
   rintro e u1 ⟨v0,rfl,h0,hE⟩
   have HO:=Lib.hid h0
   clear h0
   go_wp2_with fail
   go_loopw [6,27] (fun v n wr=>∃ (k:Nat) (m:List (List Value)),n=.int .i64 k∧Own wr wo.heap.size 38 3 v m.length m.flatten∧Evo wo wr∧((k=0∧m=[])∨(k=1∧m=la)∨(k=2∧m=la++lb))) (fun _ n _=>2 - (intOf n).toNat)
   case atStart=>exact ⟨0,[],rfl,HO.out,hE,.inl ⟨rfl,rfl⟩⟩
   case round =>
    obtain ⟨k,m,rfl,hown,e1,hm⟩:=hrel
    have HN:=Lib.hid hown
    clear hown hE HO
    rcases hm with ⟨rfl,rfl⟩ | ⟨rfl,rfl⟩ | ⟨rfl,rfl⟩
    ·go_wp2_with (at_builtin; refine wpList_append_rows rfl (.tmp 31) (.tmp 32) 32 rfl 38 _ 3 32 Tryz.underlying32 info_vl rfl (by decide) wo e1 [] la _ _ rfl rfl HN.out (HA.out.at e1) KA.out OA.out ?c1 ?c2 ?_)
     case c1=>simp; omega
     case c2=>simp; omega
     intro v' w1 hown e2 hg
     have HM:=Lib.hid hown
     clear hown hg e1
     go_wp2_with fail
     go_roundw
     case rel=>exact ⟨1,la,rfl,by simpa using HM.out,e2,.inr (.inl ⟨rfl,rfl⟩)⟩
     case measure=>simp [intOf]
    ·go_wp2_with (at_builtin; refine wpList_append_rows rfl (.tmp 31) (.tmp 32) 32 rfl 38 _ 3 32 Tryz.underlying32 info_vl rfl (by decide) wo e1 m lb _ _ rfl rfl HN.out (HB.out.at e1) KB.out OB.out ?c1 ?c2 ?_)
     case c1=>omega
     case c2=>omega
     intro v' w1 hown e2 hg
     have HM:=Lib.hid hown
     clear hown hg e1
     go_wp2_with fail
     go_roundw
     case rel=>exact ⟨2,m++lb,rfl,by simpa using HM.out,e2,.inr (.inr ⟨rfl,rfl⟩)⟩
     case measure=>simp [intOf]
    ·go_wp2_with fail
     go_ret
     exact ⟨_,rfl,by simpa using HN.out,e1⟩
theorem c_concatV {h:Vw} {v va vb:Value} {la lb:List Vl} (hr:RS h 1 v [[va],[vb]]) (ha:RS h 3 va (vlRows la)) (hb:RS h 3 vb (vlRows lb)) (hl:la.length + lb.length≤1000000) :
  C0 Tryz.prog 28 #[v] h (fun r h'=>∃ u,r=.slice (sA u) (sN u) (sC u)∧RS h' 3 (.slice (sA u) (sN u) (sC u)) (vlRows (la++lb))):=by
 have hc:=concat_vl v va vb (vlRows la) (vlRows lb) h.w (Sl.of_rs hr) (Sl.of_rs ha) (Sl.of_rs hb) (vl_len _) (vl_len _) (vl_one _) (vl_one _) (by rw [List.length_map,List.length_map]; omega)
 rw [show vlRows la++vlRows lb=vlRows (la++lb) from List.map_append.symm] at hc
 exact C0.of_own (vl_len _) hc
theorem eqVs_any (l:List Vl) (v u:Value) (h:Vw) (ha:RS h 3 v (vlRows l)) (hb:RS h 3 u (vlRows l)) (hl:l.length≤1000000):C0 Tryz.prog 27 #[v,u] h (fun r _=>r=.bool true):=by
 obtain ⟨A1,c1,rfl,-,-,-⟩:=ha.form
 obtain ⟨A2,c2,rfl,-,-,-⟩:=hb.form
 rw [List.length_map] at *
 generalize hL:l.length=n at *
 refine x_con' Tryz.func27 (c:=Tryz.f27.body.getD .skip) (N:=26) ?_
 intro hbx hbad Q hQ a w hJ
 refine rk' hJ false 15 [] [] (.k (.code [1,0,1]) [.seq [1,1]] [0,1] [(10,.bool ((n:Int) != (n:Int)))]) ?_
 clear hJ a w; intro a w hJ
 refine x_fal hJ (t:=(n:Int) != (n:Int)) ((by simp)) ?_
 refine rk' hJ false 11 [] [] (.k (.code [0,1,0,1,1]) [.block 0,.seq [1,1,1]] [0,1] [(12,Vi (n:Int)),(13,Vi 0)]) ?_
 clear hJ a w; intro a w hJ
 refine x_loop' (fun (k:Nat) a w=>∃ (h1:Vw) ,K ⟨26,h.w,h.bad,[]⟩ [(0,.slice A1 n c1),(1,.slice A2 n c2),(12,Vi (n:Int)),(13,Vi (k:Int))] [] [] h1 a w∧Sees h h1∧(k≤n)) (fun k=>n - k) (0) ⟨h,hJ.tw,Sees.refl _,Nat.zero_le _⟩ ?_
 clear hJ a w; rintro k a w ⟨h1,hJ,s2,hk⟩
 refine rk' hJ false 6 [] [] (.k (.code [0,1,0,0,1,0,1,1]) [.seq [1,1,0,0,1,0,1,1]] [0,1,12,13] [(14,.bool (decide ((k:Int) < (n:Int))))]) ?_
 clear hJ a w; intro a w hJ
 rcases (by omega:k < n∨k=n) with hlt | hke
 ·obtain ⟨x,hx⟩:∃ x,l[k]?=some x:=⟨_,List.getElem?_eq_getElem (by omega)⟩
  have hrow:=vlRows_get hx
  refine x_tru hJ (t:=decide ((k:Int) < (n:Int))) (decide_eq_true (by omega)) ?_
  refine rk' hJ false 11 [] [] (.k (.code [0,1,0,0,1,1,0,0,1,0,1,1]) [.seq [1,1,0,0,1,1,0,0,1,0,1,1],.block 1,.seq [1,1,1,0,0,1,0,1,1]] [0,1,12,13] [(5,Vi (k:Int))]) ?_
  clear hJ a w; intro a w hJ
  obtain ⟨b3,o4,rfl,-,c5⟩:=RS.row ha (hrow)
  replace hJ:=hJ.fact (c5.sees s2)
  obtain ⟨b6,o7,rfl,-,c8⟩:=RS.row hb (hrow)
  replace hJ:=hJ.fact (c8.sees s2)
  let R:Reg:=⟨⟨26,h.w,h.bad,[]⟩,[(0,16,fun gh=>.slice (some ⟨b3,o4,none⟩) n c1),(1,17,fun gh=>Vi (k:Int)),(2,18,fun gh=>.pointer (some ⟨b3,o4 + k * 3,none⟩)),(3,19,fun gh=>.agg #[Vi x.k,Vi x.n,.string x.s]),(4,20,fun gh=>.slice (some ⟨b6,o7,none⟩) n c2),(5,21,fun gh=>Vi (k:Int)),(6,22,fun gh=>.pointer (some ⟨b6,o7 + k * 3,none⟩)),(7,23,fun gh=>.agg #[Vi x.k,Vi x.n,.string x.s]),(8,24,fun gh=>.bool false)],[(0,.slice (some ⟨b3,o4,none⟩) n c1),(1,.slice (some ⟨b6,o7,none⟩) n c2),(12,Vi (n:Int)),(13,Vi (k:Int)),(5,Vi (k:Int))],[],[],[[],[],[0,1],[0,1,2],[],[],[4,5],[4,5,6],[0,1,2,3,4,5,6,7]],h1⟩
  have hmono:∀ zq∈R.F,∀ zx zh zi,Sees zh zi→zq.2 zx zh→zq.2 zx zi:=bQ
  refine x_region (by kernel_rfl) R hJ 9 [.pu,.pu,.cl,.lf 1 0,.pu,.pu,.cl,.lf 0 0,.cl] (by kernel_rfl) hmono (fun _ _ _=>by kernel_rfl) (fun hT hA=>?_) ?_
  ·clear hJ
   refine And.intro (r_pur hT hA 18 (fun gh=>.pointer (some ⟨b3,o4 + k * 3,none⟩)) [0,1] 2 (fun gh w=>run_indexAddr (t:=32) (x:=(.tmp 16)) (y:=(.tmp 17)) (b:=b3) (off:=o4) (n:=n) (cap:=c1) (k:=k) (e:=38) (kk:=3) (by kernel_rfl) (by kernel_rfl) (by kernel_rfl) (by first | omega | (simp; omega)) Tryz.underlying32 (by kernel_rfl))) ?_
   refine And.intro (r_pur hT hA 22 (fun gh=>.pointer (some ⟨b6,o7 + k * 3,none⟩)) [4,5] 6 (fun gh w=>run_indexAddr (t:=32) (x:=(.tmp 20)) (y:=(.tmp 21)) (b:=b6) (off:=o7) (n:=n) (cap:=c2) (k:=k) (e:=38) (kk:=3) (by kernel_rfl) (by kernel_rfl) (by kernel_rfl) (by first | omega | (simp; omega)) Tryz.underlying32 (by kernel_rfl))) ?_
   refine And.intro (r_pur hT hA 24 (fun gh=>.bool false) [3,7] 8 (fun gh w=>run_neqop (x:=(.tmp 19)) (y:=(.tmp 23)) (v:=x) (w:=x) (by kernel_rfl) (by kernel_rfl) (by kernel_rfl) (eqB_iff.2 rfl))) ?_
   trivial
  clear hJ a w; intro gh h9 a w sR hJ1 hF; have s10:Sees h1 h9:=sR; clear sR
  have hJ:K ⟨26,h.w,h.bad,[]⟩ [(0,.slice (some ⟨b3,o4,none⟩) n c1),(1,.slice (some ⟨b6,o7,none⟩) n c2),(12,Vi (n:Int)),(13,Vi (k:Int)),(24,.bool false)] [] [(b6,o7 + k * 3,[Vi x.k,Vi x.n,.string x.s]),(b3,o4 + k * 3,[Vi x.k,Vi x.n,.string x.s])] h9 a w:=hJ1.tw
  clear hJ1 hF hmono R
  clear gh
  refine rk' hJ false 9 [] [(25,Vi (IntKind.i64.wrap ((k:Int) + 1)),Vi ((k:Int) + 1))] (.k (.out .normal) [] [0,1,12] [(13,Vi ((k:Int) + 1))]) (hc:=And.intro (bK (by omega) (by omega)) (trivial)) ?_
  clear hJ a w; intro a w hJ
  exact x_round ⟨k + 1,⟨h9,(hJ.tof [] (F':=[]) (by kernel_rfl)).to (by kernel_rfl) (by kernel_rfl) rfl,(s2.trans s10),by omega⟩,by omega⟩
 ·skip
  refine x_fal hJ (t:=decide ((k:Int) < (n:Int))) (decide_eq_false (by omega)) ?_
  refine rx' hJ false 2 [] [] (.ok (.out (.exit 0)) [] [] [] []) (fun _=>by kernel_rfl) ?_
  clear hJ a w; intro a w hJ
  refine x_leave rfl ?_
  refine rx' hJ false 8 [] [] (.ok (.out .ret) [] [(4,.bool true)] [] []) (fun _=>by kernel_rfl) ?_
  clear hJ a w; intro a w hJ
  refine x_end (hQ [.bool true] _ [] hJ (.rtm hJ.j .nil) (aX _) rfl ?_).1
  exact rfl
set_option maxHeartbeats 4000000 in
theorem wholeTurned_c (l m:List RawD) (sl sm:Value) (i:Int) (h:Vw) (hl:RS h 4 sl (l.map RawD.cs)) (hm:RS h 4 sm (m.map RawD.cs)) (ll:l.length * 40≤reachBytes) (lm:m.length * 40≤reachBytes) (ol:∀ r∈l,r.ok) (om:∀ r∈m,r.ok)
  (i0 : -9223372036854775808≤i) (i1:i≤9223372036854775807):C0 Tryz.prog 7 #[sl,sm,.int .i64 i] h (fun v _=>v=.bool true):=by
 have hF:=form_c l sl
 have hlen:=form_len l
 have hnl:=nFields_le l
 have hty:=form_ty l
 have hnd:=form_nodup l
 have hOr:=oracle_form l m
 have hol:=orcF_len l m
 have hokF:=form_okFs l
 have hok:=form_okFm l
 have hI:=inp_ok l m
 have hrk:=form_ranked l
 have p0:=pickL_lo i (formE l).fields.length (by omega)
 have p1:=pickL_hi i (formE l).fields.length (by omega)
 have hpk:=fun H=>c_picked i (formE l).fields.length H i0 i1 (by omega) (by omega)
 obtain ⟨k,hk⟩:∃ k:Nat,aQ i (formE l).fields.length=(k:Int):=⟨_,(Int.toNat_of_nonneg p0).symm⟩
 rw [hk] at p1 hpk
 have hA:=all_orc l m (orcF l m) (orcF_ok l m) (by omega)
 obtain ⟨s1,o1⟩:=allF_sol l m (orcF_ok l m).has
 have t:Turn (formE l).fields ((formE l).fields.drop k++(formE l).fields.take k) :=
  ⟨hok.fields,hokF _ (by rw [List.map_append,List.map_drop,List.map_take]; exact rot_nodup hnd) (fun f=>rot_mem) (by rw [List.length_append,List.length_drop,List.length_take]; omega),fun f=>rot_mem,by rw [List.length_append,List.length_drop,List.length_take]; omega⟩
 have hok2:OkFm ⟨(formE l).fields.drop k++(formE l).fields.take k,(formE l).pages⟩ (rhoL (needsE ((formE l).fields.drop k++(formE l).fields.take k))) (lvT (formE l).fields ((formE l).fields.drop k++(formE l).fields.take k) (lvF l)):=⟨t.ok',t.pages hok.pages,t.ranked hrk⟩
 have oo:=t.orc (orcF_ok l m)
 have told2:factsV ((formE l).fields.drop k++(formE l).fields.take k) [] (inpE (formE l).fields m)=0:=factsV_ok _ _ [] (fun p hp=>t.told (inp_told hnd p hp)) hI.once
 have hB:∀ A c B d si so H,IsForm H (.slice A (formE l).fields.length c) (.slice B (formE l).pages.length d) ⟨((formE l).fields.drop k++(formE l).fields.take k),(formE l).pages⟩→RS H 7 si (fcRows (inpE (formE l).fields m))→RS H 7 so (anRows (orcF l m)) →
   C0 Tryz.prog 18 #[.agg #[.slice A (formE l).fields.length c,.slice B (formE l).pages.length d],si,so] H (fun r h'=>∃ A' c',r=.tuple #[.slice A' (formE l).fields.length c',.int .i64 0]∧RS h' 3 (.slice A' (formE l).fields.length c') (vlRows (allW ((formE l).fields.drop k++(formE l).fields.take k) (inpE (formE l).fields m) (orcF l m) (ordL (rhoL (needsE ((formE l).fields.drop k++(formE l).fields.take k))) ((formE l).fields.drop k++(formE l).fields.take k).length)))):=fun A c B d si so H q1 q3 q4=>by
  have:=whAll_any ⟨((formE l).fields.drop k++(formE l).fields.take k),(formE l).pages⟩ _ _ A (formE l).fields.length c B (formE l).pages.length d (inpE (formE l).fields m) si so (orcF l m) H hok2 q1 t.len.symm (by omega) q3 (by have:=hI.few; omega) hI.known told2 q4 (by omega) oo.has (fun H' g1 g2=>whOracle_any _ t.ok' (orcF l m) oo A _ c B _ d so H' g1.fields t.len.symm g2 (by omega))
  rw [t.len]
  exact this
 have hS2:=(all_sol t.ok' hI.known oo.has (ordL_ordd (t.ranked hrk) (by rw [t.len]; omega))).1
 have hv1:=s1.len
 have hrot:=sol_one t.ok' (t.ranked hrk) (t.sol s1 (by rw [List.length_append,List.length_drop,List.length_take,t.len,hv1]; omega) (rot_same hv1 (by omega))) hS2
 have hlt2:=t.len
 have hfew:=hI.few
 clear hokF s1 o1 oo told2 hS2 hrk hok hok2 hnd
 generalize allW ((formE l).fields.drop k++(formE l).fields.take k) (inpE (formE l).fields m) (orcF l m) (ordL (rhoL (needsE ((formE l).fields.drop k++(formE l).fields.take k))) ((formE l).fields.drop k++(formE l).fields.take k).length)=vb at *
 generalize allF l m (orcF l m)=va at *
 generalize orcF l m=orc at *
 clear t
 generalize formE l=fm at *
 have hin:=fun H fv pv q1 q2 q3=>inputs_any fm.fields pv fv m sm H q1 q2 (by omega) hty q3 lm om
 generalize inpE fm.fields m=env at *
 have erl:(fcRows env).length=env.length:=List.length_map _
 obtain ⟨A0,c0,rfl,-,-,-⟩:=hl.form
 obtain ⟨A1,c1,rfl,-,-,-⟩:=hm.form
 rw [List.length_map] at *
 rw [List.length_map] at *
 generalize hN:fm.fields.length=N at *
 generalize hNo:orc.length=No at *
 refine x_con' Tryz.func7 (c:=Tryz.f7.body.getD .skip) (N:=84) ?_
 intro hbx hbad Q hQ a w hJ
 refine rk' hJ false 8 [] [] (.k (.ops [0,1] 1) [.seq [1,1]] [1,2] [(17,.slice A0 l.length c0)]) ?_
 clear hJ a w; intro a w hJ
 refine x_call hJ 18 (hF _ (hl.sees hJ.j.sees) ll ol) (fun _=>by kernel_rfl) ?_; clear hJ a w; rintro _ h1 a w s2 ⟨A,c,B,d,rfl,hfm⟩ hJ
 refine rx' hJ false 8 [.own,.b 0 0,.b 0 0] [] (.new fun b3=>.ok (.ops [0,1,1] 2) [.seq [1,1,1]] [(2,Vi i),(7,Vp b3),(19,.agg #[.slice A N c,.slice B fm.pages.length d]),(20,.slice A1 m.length c1)] [.box b3 [.slice A N c,.slice B fm.pages.length d]] []) (fun b3 _=>by kernel_rfl) ?_
 clear hJ a w; intro b3 a w hJ
 refine x_callrow hJ 21 (hin _ _ (.slice B fm.pages.length d) ((hfm.sees hJ.j.sees)).fields rfl (hm.sees (s2.trans hJ.j.sees))) (fun _=>by kernel_rfl) ?_; clear hJ a w; rintro v _ a w rfl hJ
 refine rk' hJ false 7 [.b 1 0] [] (.k (.ops [0,1,1,1] 2) [.seq [1,1,1,1]] [2,7] [(8,v),(23,.agg #[.slice A N c,.slice B fm.pages.length d]),(24,v)]) ?_
 clear hJ a w; intro a w hJ
 obtain ⟨Av,cv,hE_v,hc_v,hm_v⟩:=hJ.form (v:=v) (e:=54) (k:=7) (l:=fcRows env) 0 (by kernel_rfl)
 rw [show (fcRows env).length=env.length from by first | omega | (simp; done) | (simp; omega)] at hE_v hc_v
 rw [hE_v] at hJ
 obtain ⟨h4,s5,fin,hJn⟩:=hJ.frozen (v:=.slice Av env.length cv) (e:=54) (k:=7) (l:=fcRows env) 0 (by kernel_rfl) (hJ.j.rowOut0 (v:=.slice Av env.length cv) (e:=54) (k:=7) (l:=fcRows env) 0 (by kernel_rfl) rfl); clear hJ; have hJ:=hJn; clear hJn
 refine x_call hJ 25 (hOr _ _ _ _ _ _ (hfm.sees (s5.trans hJ.j.sees)) (fin.sees hJ.j.sees)) (fun _=>by kernel_rfl) ?_; clear hJ a w; rintro _ h6 a w s7 ⟨Ao,co,rfl,hro⟩ hJ
 refine rk' hJ false 13 [.b 0 0] [] (.k (.ops [0,1,1,1,1] 4) [.seq [1,1,1,1,1]] [7,8] [(9,.slice Ao No co),(10,.bool true),(28,Vi i),(31,Vi (N:Int))]) ?_
 clear hJ a w; intro a w hJ
 refine rk' hJ false 5 [.cl 24 #[Vi i,Vi (N:Int)] (Vi (k:Int))] [] (.k (.code [0,1,1,1,1,1]) [.seq [1,1,1,1,1,1]] [7,8,9,10] [(11,Vi (k:Int))]) (ho:=And.intro (fun H sH=>hpk _) (trivial)) ?_
 clear hJ a w; intro a w hJ
 have hcc:∀ (H:Vw) (b:Nat) (Ad:Option Addr),IsForm H (.slice A N c) (.slice B fm.pages.length d) fm→Cells H b 0 [.slice Ad (N - k) (c - k),.slice A k c]→(Ad=if c=k then A else A.map (·.add (k * 9))) →
   C0 Tryz.prog 26 #[.slice (some ⟨b,0,none⟩) 2 2] H (fun r h'=>∃ u,r=.slice (sA u) (sN u) (sC u)∧IsFds h' (.slice (sA u) (sN u) (sC u)) (fm.fields.drop k++fm.fields.take k)):=fun H b Ad q hc e=>by
  obtain ⟨vs,A',c',e1,-,-,hr,hsrc,hvl,hsl⟩:=fds_open q.fields
  simp only [Value.slice.injEq] at e1
  obtain ⟨rfl,-,rfl⟩:=e1
  rw [hN] at hr hvl
  have g1:=hr.take k (by rw [fdRows_len (by rw [hvl,hN])]; omega)
  have g2:=hr.drop k (by rw [fdRows_len (by rw [hvl,hN])]; omega)
  rw [← e] at g2
  rw [show (fdRows fm.fields vs).take k=fdRows (fm.fields.take k) (vs.take k) from List.take_zipWith] at g1
  rw [show (fdRows fm.fields vs).drop k=fdRows (fm.fields.drop k) (vs.drop k) from List.drop_zipWith] at g2
  have sd:AllSrc H (fm.fields.drop k) (vs.drop k):=by unfold AllSrc; rw [List.map_drop]; exact AllArgs.drop' k hsrc
  have st:AllSrc H (fm.fields.take k) (vs.take k):=by
   unfold AllSrc
   rw [List.map_take]
   exact AllArgs.take' k hsrc
  exact c_concatF (rs_cells (k:=1) [[.slice Ad (N - k) (c - k)],[.slice A k c]] (fun r hr=>by simp at hr; rcases hr with rfl | rfl <;> rfl) (show (2:Nat)≤maxLen by decide) hc) g2 g1 sd st (fun u hu=>hsl u (List.mem_of_mem_drop hu)) (fun u hu=>hsl u (List.mem_of_mem_take hu)) (by rw [List.length_drop,List.length_take]; omega)
 have hcap:N≤c:=by
  obtain ⟨vs,A',c',e1,q,-⟩:=fds_open hfm.fields
  simp only [Value.slice.injEq] at e1
  obtain ⟨-,-,rfl⟩:=e1
  omega
 obtain ⟨Ad,hAd⟩:∃ x,x=(if c=k then A else (A:Option Addr).map (·.add (k * 9))):=⟨_,rfl⟩
 let R:Reg:=⟨⟨84,h.w,h.bad,[]⟩,[(0,33,fun gh=>Vp b3),(1,34,fun gh=>.slice A N c),(2,35,fun gh=>Vi (k:Int)),(3,36,fun gh=>.slice Ad (N - k) (c - k)),(4,37,fun gh=>Vp b3),(5,38,fun gh=>.slice A N c),(6,39,fun gh=>Vi (k:Int)),(7,40,fun gh=>.slice A k c),(8,41,fun gh=>.slice (some ⟨(blkOf (gh 8)),0,none⟩) 2 2),(9,42,fun gh=>.slice (sA (gh 9)) (sN (gh 9)) (sC (gh 9))),(10,43,fun gh=>.pointer (some ⟨b3,1,none⟩)),(11,44,fun gh=>.slice B fm.pages.length d),(12,45,fun gh=>.agg #[.slice (sA (gh 9)) (sN (gh 9)) (sC (gh 9)),.slice B fm.pages.length d]),(13,12,fun gh=>.pointer (some ⟨(blkOf (gh 13)),0,none⟩))],[(7,Vp b3),(8,.slice Av env.length cv),(9,.slice Ao No co),(10,.bool true),(11,Vi (k:Int))],[⟨none,[(13,fun gh=>.box (blkOf (gh 13)) [Vz,Vz]),(14,fun gh=>.box (blkOf (gh 13)) [.slice (sA (gh 9)) (sN (gh 9)) (sC (gh 9)),.slice B fm.pages.length d])]⟩,⟨some (.box b3 [.slice A N c,.slice B fm.pages.length d]),[]⟩],[(8,fun gh hh=>Cells hh (blkOf (gh 8)) 0 [.slice Ad (N - k) (c - k),.slice A k c]),(9,fun gh hh=>IsFds hh (.slice (sA (gh 9)) (sN (gh 9)) (sC (gh 9))) (fm.fields.drop k++fm.fields.take k))],[[],[0],[],[0,1,2],[],[4],[],[4,5,6],[0,1,2,3,4,5,6,7],[0,1,2,3,4,5,6,7,8],[],[10],[0,1,2,3,4,5,6,7,8,9,10,11],[],[0,1,2,3,4,5,6,7,8,9,10,11,12,13]],h6⟩
 have hmono:∀ zq∈R.F,∀ zx zh zi,Sees zh zi→zq.2 zx zh→zq.2 zx zi:=mono_cons (fun _ _ _ s c=>c.sees s) (mono_cons (fun _ _ _ s c=>c.sees s) (bQ))
 refine x_region (by kernel_rfl) R hJ 15 [.pu,.ld 1 0,.pu,.cl,.pu,.ld 1 0,.pu,.cl,.cl,.cl,.pu,.ld 1 1,.pu,.al 0,.st 0 0] (by kernel_rfl) hmono (fun _ _ _=>by kernel_rfl) (fun hT hA=>?_) ?_
 ·clear hJ
  refine And.intro (r_pur hT hA 36 (fun gh=>.slice Ad (N - k) (c - k)) [1,2] 3 (fun gh w=>run_lo (t:=23) (e:=43) (x:=(.tmp 34)) (y:=(.tmp 35)) (A:=A) (A':=Ad) (n:=N) (cap:=c) (k:=k) (kk:=9) (by kernel_rfl) (by kernel_rfl) (by kernel_rfl) (by omega) Tryz.underlying23 (by kernel_rfl) hAd)) ?_
  refine And.intro (r_pur hT hA 40 (fun gh=>.slice A k c) [5,6] 7 (fun gh w=>run_hi (t:=23) (e:=43) (x:=(.tmp 38)) (y:=(.tmp 39)) (A:=A) (n:=N) (cap:=c) (k:=k) (kk:=9) (by kernel_rfl) (by kernel_rfl) (by kernel_rfl) (by omega) Tryz.underlying23 (by kernel_rfl))) ?_
  refine And.intro (r_fact hT hA hmono ⟨fun _ _=>by kernel_rfl,fun _ _=>by kernel_rfl,fun _ _=>by kernel_rfl⟩ 41 (fun g=>Vs g 2 2) [3,7] 8 (by kernel_rfl) (by kernel_rfl) (fun _=>by kernel_rfl) (fun gh=>[.slice Ad (N - k) (c - k),.slice A k c]) 23 (fun _ _=>by kernel_rfl) (fun gh zb zH zc zj zq zhq zhe=>own_fact (i:=8) (k:=0) (f:=fun gh hh=>Cells hh (blkOf (gh 8)) 0 [.slice Ad (N - k) (c - k),.slice A k c]) (by kernel_rfl) (by kernel_rfl) zc zj zq zhq zhe)) ?_
  refine And.intro (r_call hT hA hmono ⟨fun _ _=>by kernel_rfl,fun _ _=>by kernel_rfl,fun _ _=>by kernel_rfl⟩ 42 (fun u=>.slice (sA u) (sN u) (sC u)) [8] 9 (by kernel_rfl) (by kernel_rfl) (fun _=>by kernel_rfl) 26 (fun gh=>#[.slice (some ⟨(blkOf (gh 8)),0,none⟩) 2 2]) (fun _ _=>by kernel_rfl) (fun gh H sH fH lent=>C0.facts (R:=R) (x:=gh) (i:=9) (n:=1) (F:=(fun u=>.slice (sA u) (sN u) (sC u))) (G:=fun u hh=>IsFds hh (.slice (sA u) (sN u) (sC u)) (fm.fields.drop k++fm.fields.take k)) (f:=fun gh hh=>IsFds hh (.slice (sA (gh 9)) (sN (gh 9)) (sC (gh 9))) (fm.fields.drop k++fm.fields.take k)) (hcc _ _ _ (hfm.sees (s5.trans (s7.trans sH))) (fH 0 _ rfl (by kernel_rfl)) hAd) (by kernel_rfl) (by kernel_rfl) (fun _ _ r=>r))) ?_
  trivial
 clear hJ a w; intro gh h11 a w sR hJ1 hF; have s12:Sees h6 h11:=sR; clear sR
 have hJ:K ⟨84,h.w,h.bad,[]⟩ [(7,Vp b3),(8,.slice Av env.length cv),(9,.slice Ao No co),(10,.bool true),(11,Vi (k:Int)),(12,.pointer (some ⟨(blkOf (gh 13)),0,none⟩))] [.box (blkOf (gh 13)) [.slice (sA (gh 9)) (sN (gh 9)) (sC (gh 9)),.slice B fm.pages.length d],.box b3 [.slice A N c,.slice B fm.pages.length d]] [] h11 a w:=hJ1.tw
 have f8:Cells h11 (blkOf (gh 8)) 0 [.slice Ad (N - k) (c - k),.slice A k c]:=Reg.fact (i:=8) (f:=fun gh hh=>Cells hh (blkOf (gh 8)) 0 [.slice Ad (N - k) (c - k),.slice A k c]) hF 0 (by kernel_rfl)
 replace hJ:=hJ.fact f8
 have f42:IsFds h11 (.slice (sA (gh 9)) (sN (gh 9)) (sC (gh 9))) (fm.fields.drop k++fm.fields.take k):=Reg.fact (i:=9) (f:=fun gh hh=>IsFds hh (.slice (sA (gh 9)) (sN (gh 9)) (sC (gh 9))) (fm.fields.drop k++fm.fields.take k)) hF 1 (by kernel_rfl)
 clear hJ1 hF hmono R
 generalize blkOf (gh 8)=b9 at *
 generalize gh 9=u42 at *
 generalize blkOf (gh 13)=b10 at *
 clear gh
 refine rk' hJ false 6 [.b 1 0] [] (.k (.ops [0,1,1,1,1,1,1] 3) [.seq [1,1,1,1,1,1,1]] [8,9,10,11,12] [(47,.agg #[.slice A N c,.slice B fm.pages.length d]),(48,.slice Av env.length cv),(49,.slice Ao No co)]) ?_
 clear hJ a w; intro a w hJ
 have e42:sN u42=N:=by
  obtain ⟨vs,A',c',e1,-⟩:=fds_open f42
  simp only [Value.slice.injEq] at e1
  rw [e1.2.1,hlt2]
 have g42:=f42
 rw [e42] at hJ g42
 clear hcc
 generalize sA u42=A7 at *
 generalize sC u42=c7 at *
 refine x_call hJ 50 (hA _ _ _ _ _ _ _ (hfm.sees (s5.trans (s7.trans (s12.trans hJ.j.sees)))) (fin.sees (s7.trans (s12.trans hJ.j.sees))) (hro.sees (s12.trans hJ.j.sees))) (fun _=>by kernel_rfl) ?_; clear hJ a w; rintro _ h13 a w s14 ⟨A2,c2,rfl,hva2⟩ hJ
 refine rk' hJ false 12 [.b 0 0] [] (.k (.ops [0,1,1,1,1,1,1,1] 3) [.seq [1,1,1,1,1,1,1,1]] [10,11] [(13,.slice A2 N c2),(14,Vi 0),(54,.agg #[.slice A7 N c7,.slice B fm.pages.length d]),(55,.slice Av env.length cv),(56,.slice Ao No co)]) ?_
 clear hJ a w; intro a w hJ
 refine x_call hJ 57 (hB _ _ _ _ _ _ _ ⟨(g42.sees (s14.trans hJ.j.sees)),((hfm.sees (s5.trans (s7.trans (s12.trans (s14.trans hJ.j.sees)))))).pages⟩ (fin.sees (s7.trans (s12.trans (s14.trans hJ.j.sees)))) (hro.sees (s12.trans (s14.trans hJ.j.sees)))) (fun _=>by kernel_rfl) ?_; clear hJ a w; rintro _ h15 a w s16 ⟨A3,c3,rfl,hvb⟩ hJ
 refine rk' hJ false 8 [] [] (.k (.code [0,1,1,1,1,1,1,1,1]) [.seq [1,1,1,1,1,1,1,1,1]] [10,11,13,14] [(15,.slice A3 N c3),(16,Vi 0)]) ?_
 clear hJ a w; intro a w hJ
 have hcv:∀ (H:Vw) (b:Nat) (Av':Option Addr),RS H 3 (.slice A2 N c2) (vlRows va)→Cells H b 0 [.slice Av' (N - k) (c2 - k),.slice A2 k c2]→(Av'=if c2=k then A2 else A2.map (·.add (k * 3))) →
   C0 Tryz.prog 28 #[.slice (some ⟨b,0,none⟩) 2 2] H (fun r h'=>∃ u,r=.slice (sA u) (sN u) (sC u)∧RS h' 3 (.slice (sA u) (sN u) (sC u)) (vlRows vb)):=fun H b Av' hr hc e=>by
  have g1:=hr.take k (by rw [List.length_map]; omega)
  have g2:=hr.drop k (by rw [List.length_map]; omega)
  rw [← e] at g2
  rw [← List.map_take] at g1
  rw [← List.map_drop] at g2
  rw [← hrot]
  exact c_concatV (rs_cells (k:=1) [[.slice Av' (N - k) (c2 - k)],[.slice A2 k c2]] (fun r hr=>by simp at hr; rcases hr with rfl | rfl <;> rfl) (show (2:Nat)≤maxLen by decide) hc) g2 g1 (by rw [List.length_drop,List.length_take]; omega)
 have hcap2:N≤c2:=by
  obtain ⟨A',c',e',q,-⟩:=hva2.form
  simp only [Value.slice.injEq] at e'
  obtain ⟨-,-,rfl⟩:=e'
  rw [List.length_map] at q
  omega
 have hvbl:vb.length≤1000000:=by rw [← hrot,List.length_append,List.length_drop,List.length_take]; omega
 obtain ⟨Ax,hAx⟩:∃ x,x=(if c2=k then A2 else (A2:Option Addr).map (·.add (k * 3))):=⟨_,rfl⟩
 let R:Reg:=⟨⟨84,h.w,h.bad,[]⟩,[(0,60,fun gh=>.bool true),(1,61,fun gh=>.bool true),(2,62,fun gh=>.bool true),(3,63,fun gh=>.bool true),(4,64,fun gh=>.bool true),(5,65,fun gh=>Vi 0),(6,66,fun gh=>.bool true),(7,67,fun gh=>.bool true),(8,68,fun gh=>.bool true),(9,69,fun gh=>Vi 0),(10,70,fun gh=>.bool true),(11,71,fun gh=>.bool true),(12,72,fun gh=>.bool true),(13,73,fun gh=>.slice A2 N c2),(14,74,fun gh=>Vi (k:Int)),(15,75,fun gh=>.slice Ax (N - k) (c2 - k)),(16,76,fun gh=>.slice A2 N c2),(17,77,fun gh=>Vi (k:Int)),(18,78,fun gh=>.slice A2 k c2),(19,79,fun gh=>.slice (some ⟨(blkOf (gh 19)),0,none⟩) 2 2),(20,80,fun gh=>.slice (sA (gh 20)) (sN (gh 20)) (sC (gh 20))),(21,81,fun gh=>.slice A3 N c3),(22,82,fun gh=>.bool true),(23,83,fun gh=>.bool true),(24,6,fun gh=>.bool true)],[(10,.bool true),(11,Vi (k:Int)),(13,.slice A2 N c2),(14,Vi 0),(15,.slice A3 N c3),(16,Vi 0)],[⟨some (.box b10 [.slice A7 N c7,.slice B fm.pages.length d]),[]⟩,⟨some (.box b3 [.slice A N c,.slice B fm.pages.length d]),[]⟩],[(19,fun gh hh=>Cells hh (blkOf (gh 19)) 0 [.slice Ax (N - k) (c2 - k),.slice A2 k c2]),(20,fun gh hh=>RS hh 3 (.slice (sA (gh 20)) (sN (gh 20)) (sC (gh 20))) (vlRows vb))],[[],[0],[0,1],[0,1,2],[0,1,2,3],[0,1,2,3,4],[0,1,2,3,4,5],[0,1,2,3,4,5,6],[0,1,2,3,4,5,6,7],[0,1,2,3,4,5,6,7,8],[0,1,2,3,4,5,6,7,8,9],[0,1,2,3,4,5,6,7,8,9,10],[0,1,2,3,4,5,6,7,8,9,10,11],[0,1,2,3,4,5,6,7,8,9,10,11,12],[0,1,2,3,4,5,6,7,8,9,10,11,12],[0,1,2,3,4,5,6,7,8,9,10,11,12,13,14],[0,1,2,3,4,5,6,7,8,9,10,11,12],[0,1,2,3,4,5,6,7,8,9,10,11,12],[0,1,2,3,4,5,6,7,8,9,10,11,12,16,17],[0,1,2,3,4,5,6,7,8,9,10,11,12,13,14,15,16,17,18],[0,1,2,3,4,5,6,7,8,9,10,11,12,13,14,15,16,17,18,19],[0,1,2,3,4,5,6,7,8,9,10,11,12],[0,1,2,3,4,5,6,7,8,9,10,11,12,13,14,15,16,17,18,19,20,21],[0,1,2,3,4,5,6,7,8,9,10,11,12,13,14,15,16,17,18,19,20,21,22],[0,1,2,3,4,5,6,7,8,9,10,11,12,13,14,15,16,17,18,19,20,21,22,23]],h15⟩
 have hmono:∀ zq∈R.F,∀ zx zh zi,Sees zh zi→zq.2 zx zh→zq.2 zx zi:=mono_cons (fun _ _ _ s c=>c.sees s) (mono_cons (fun _ _ _ s c=>c.sees s) (bQ))
 refine x_region (by kernel_rfl) R hJ 25 [.cl,.pu,.pu,.pu,.pu,.pu,.pu,.pu,.pu,.pu,.pu,.pu,.pu,.pu,.pu,.cl,.pu,.pu,.cl,.cl,.cl,.pu,.cl,.pu,.pu] (by kernel_rfl) hmono (fun _ _ _=>by kernel_rfl) (fun hT hA=>?_) ?_
 ·clear hJ
  refine And.intro (r_calv hT hA hmono 60 (fun gh=>.bool true) [] 0 19 (fun gh=>#[]) (fun gh H sH fH lent=>known_any _)) ?_
  refine And.intro (r_pur hT hA 75 (fun gh=>.slice Ax (N - k) (c2 - k)) [12,13,14] 15 (fun gh w=>run_lo (t:=32) (e:=38) (x:=(.tmp 73)) (y:=(.tmp 74)) (A:=A2) (A':=Ax) (n:=N) (cap:=c2) (k:=k) (kk:=3) (by kernel_rfl) (by kernel_rfl) (by kernel_rfl) (by omega) Tryz.underlying32 (by kernel_rfl) hAx)) ?_
  refine And.intro (r_pur hT hA 78 (fun gh=>.slice A2 k c2) [12,16,17] 18 (fun gh w=>run_hi (t:=32) (e:=38) (x:=(.tmp 76)) (y:=(.tmp 77)) (A:=A2) (n:=N) (cap:=c2) (k:=k) (kk:=3) (by kernel_rfl) (by kernel_rfl) (by kernel_rfl) (by omega) Tryz.underlying32 (by kernel_rfl))) ?_
  refine And.intro (r_fact hT hA hmono ⟨fun _ _=>by kernel_rfl,fun _ _=>by kernel_rfl,fun _ _=>by kernel_rfl⟩ 79 (fun g=>Vs g 2 2) [12,15,18] 19 (by kernel_rfl) (by kernel_rfl) (fun _=>by kernel_rfl) (fun gh=>[.slice Ax (N - k) (c2 - k),.slice A2 k c2]) 32 (fun _ _=>by kernel_rfl) (fun gh zb zH zc zj zq zhq zhe=>own_fact (i:=19) (k:=0) (f:=fun gh hh=>Cells hh (blkOf (gh 19)) 0 [.slice Ax (N - k) (c2 - k),.slice A2 k c2]) (by kernel_rfl) (by kernel_rfl) zc zj zq zhq zhe)) ?_
  refine And.intro (r_call hT hA hmono ⟨fun _ _=>by kernel_rfl,fun _ _=>by kernel_rfl,fun _ _=>by kernel_rfl⟩ 80 (fun u=>.slice (sA u) (sN u) (sC u)) [12,19] 20 (by kernel_rfl) (by kernel_rfl) (fun _=>by kernel_rfl) 28 (fun gh=>#[.slice (some ⟨(blkOf (gh 19)),0,none⟩) 2 2]) (fun _ _=>by kernel_rfl) (fun gh H sH fH lent=>C0.facts (R:=R) (x:=gh) (i:=20) (n:=1) (F:=(fun u=>.slice (sA u) (sN u) (sC u))) (G:=fun u hh=>RS hh 3 (.slice (sA u) (sN u) (sC u)) (vlRows vb)) (f:=fun gh hh=>RS hh 3 (.slice (sA (gh 20)) (sN (gh 20)) (sC (gh 20))) (vlRows vb)) (hcv _ _ _ (hva2.sees (s16.trans sH)) (fH 0 _ rfl (by kernel_rfl)) hAx) (by kernel_rfl) (by kernel_rfl) (fun _ _ r=>r))) ?_
  refine And.intro (r_calv hT hA hmono 82 (fun gh=>.bool true) [12,20,21] 22 27 (fun gh=>#[.slice (sA (gh 20)) (sN (gh 20)) (sC (gh 20)),.slice A3 N c3]) (fun gh H sH fH lent=>eqVs_any vb _ _ _ (fH 1 _ rfl (by kernel_rfl)) (hvb.sees sH) hvbl)) ?_
  trivial
 clear hJ a w; intro gh h19 a w sR hJ1 hF; have s20:Sees h15 h19:=sR; clear sR
 have hJ:K ⟨84,h.w,h.bad,[]⟩ [(6,.bool true)] [.box b10 [.slice A7 N c7,.slice B fm.pages.length d],.box b3 [.slice A N c,.slice B fm.pages.length d]] [(b9,0,[.slice Ad (N - k) (c - k),.slice A k c])] h19 a w:=hJ1.tw
 have f17:Cells h19 (blkOf (gh 19)) 0 [.slice Ax (N - k) (c2 - k),.slice A2 k c2]:=Reg.fact (i:=19) (f:=fun gh hh=>Cells hh (blkOf (gh 19)) 0 [.slice Ax (N - k) (c2 - k),.slice A2 k c2]) hF 0 (by kernel_rfl)
 replace hJ:=hJ.fact f17
 have f80:RS h19 3 (.slice (sA (gh 20)) (sN (gh 20)) (sC (gh 20))) (vlRows vb):=Reg.fact (i:=20) (f:=fun gh hh=>RS hh 3 (.slice (sA (gh 20)) (sN (gh 20)) (sC (gh 20))) (vlRows vb)) hF 1 (by kernel_rfl)
 clear hJ1 hF hmono R
 generalize blkOf (gh 19)=b18 at *
 generalize gh 20=u80 at *
 clear gh
 refine rk' hJ false 2 [] [] (.k (.out .ret) [] [6] []) ?_
 clear hJ a w; intro a w hJ
 refine x_end (hQ [.bool true] _ [] hJ (.rtm hJ.j .nil) (aX _) rfl ?_).1
 exact rfl
theorem wholeTurned_walk (v:Value) (l:List RawD) (v':Value) (m:List RawD) (i:Int) (w:World) (h:RawsOf w v l) (h':RawsOf w v' m) (i0 : -9223372036854775808≤i) (i1:i≤9223372036854775807) :
  Calls Tryz.prog 7 #[v,v',.int .i64 i] w fun e w'=>e=.returned (.bool true)∧Below w.heap.size w w' :=
 C0.law (wholeTurned_c l m v v' i ⟨w,[]⟩ h.rs h'.rs h.2.1 h'.2.1 h.2.2 h'.2.2 i0 i1)
namespace wholeTurnedLaw
open Go.ChangeShapes Go.WideShapes Go.ChangeAt Go.RowKit
open Go.ChangeMaps (open_string shut_string)
set_option linter.unusedVariables false
theorem lifted (os:Os) (started:os.Started) (H:Type) (enc:TypeId × Value→H) :
  ReturnsInHanded {} Tryz.checked os 7 .any (Rows.wholeTurnedSpec.pre6 enc Tryz.prog Tryz.f7 Rows.wholeTurnedRow.domain false) (Rows.wholeTurnedSpec.post enc Tryz.prog Tryz.f7 false true false false):=by
 refine returnsInHanded_of_change_sized (C:=Tryz.checked) ownNone started (by kernel_rfl) Tryz.func7
  (ChangeSpec.witness6 (enc:=enc) (C:=Tryz.checked) false ⟨#[],#[.slice none 0 0,.slice none 0 0,.int .i64 0],[]⟩ 8 (by kernel_rfl) (by kernel_rfl) (by kernel_rfl) (by kernel_rfl)) ?_
 intro W base args ds gs before hval0 hW hcnd hsz0 _
 have hval:∀ (j:Nat) t v,Tryz.f7.params[j]?=some t→args[j]?=some v→Value.okWide Tryz.prog W .any base t v:=hval0
 have hsz:(DataW.weightsEach Tryz.prog (Tryz.f7.params.toList++Rows.wholeTurnedSpec.plain.varTypes Tryz.prog) (ds++gs)).all (· ≤ reachBytes)=true:=hsz0
 have hW':=hW
 obtain ⟨p,q,hA0,hV,rfl,hfz,hnd⟩:=hW
 have hA:DataW.TrodAll enc Tryz.prog W 0 (fun _=>true) true Tryz.f7.params.toList args.toList ds p:=hA0
 rw [Tryz.params7] at hA hval hsz
 obtain ⟨v0,vs0,d0,ds0,p0,q0,hargs,rfl,rfl,h0,r0⟩:=trodAll_cons hA
 obtain ⟨v1,vs1,d1,ds1,p1,q1,rfl,rfl,rfl,h1,r1⟩:=trodAll_cons r0
 obtain ⟨v2,vs2,d2,ds2,p2,q2,rfl,rfl,rfl,h2,r2⟩:=trodAll_cons r1
 obtain ⟨rfl,rfl,rfl⟩:=trodAll_nil r2
 obtain rfl:args=#[v0,v1,v2]:=by cases args; simp_all
 obtain ⟨rfl,rfl⟩:=trodVars_none hV
 have k0:=h0
 have lt0:∀ x∈p0,x.block < W.heap.size:=by obtain ⟨m,hm⟩:=k0; exact DataW.trod_lt m _ _ _ hm
 obtain ⟨a0,w0⟩:=open_rows (hval 0 22 v0 rfl rfl) h0 (fun es ss hd=>sized_slice hsz (j:=0) (t:=22) (elems:=es) (spare:=ss) rfl (by rw [hd]; rfl) Tryz.underlying22)
 have k1:=h1
 have lt1:∀ x∈p1,x.block < W.heap.size:=by obtain ⟨m,hm⟩:=k1; exact DataW.trod_lt m _ _ _ hm
 obtain ⟨a1,w1⟩:=open_rows (hval 1 22 v1 rfl rfl) h1 (fun es ss hd=>sized_slice hsz (j:=1) (t:=22) (elems:=es) (spare:=ss) rfl (by rw [hd]; rfl) Tryz.underlying22)
 have k2:=h2
 have lt2:∀ x∈p2,x.block < W.heap.size:=by obtain ⟨m,hm⟩:=k2; exact DataW.trod_lt m _ _ _ hm
 obtain ⟨a2,rfl,-,-,w2⟩:=open_int Tryz.underlying3 (hval 2 3 v2 rfl rfl) h2
 clear hA0 hval0 hsz0
 refine (wholeTurned_walk v0 a0 v1 a1 a2 W w0 w1 (int_lo w2) (int_hi w2)).mono fun e W' ⟨he,bel⟩=>?_
 subst he
 exact ⟨_,rfl,_,_,_,[],_,[],hW',trodAll_mk1 (shut_bool Tryz.underlying4 _),(trodAll_cons_mk (Below.trod laidOutTrue (by kernel_rfl) (of_decide_eq_true (by kernel_rfl)) k0 bel lt0) (trodAll_cons_mk (Below.trod laidOutTrue (by kernel_rfl) (of_decide_eq_true (by kernel_rfl)) k1 bel lt1) (trodAll_cons_mk (Below.trod laidOutTrue (by kernel_rfl) (of_decide_eq_true (by kernel_rfl)) k2 bel lt2) trodAll_mk0))),rfl,bel.frame _,fun h=>by cases h⟩
theorem over:Rows.wholeTurnedRow.holds Tryz.pinned (OpenSpec.ofChange Rows.wholeTurnedSpec) :=
 OpenClaim.holds_of_wide 7 Tryz.f7 rfl rfl rfl rfl rfl rfl rfl ⟨rfl,rfl,rfl,rfl,rfl⟩ rfl rfl rfl rfl rfl (by kernel_rfl) Tryz.func7 (by kernel_rfl)
  (of_decide_eq_true (by kernel_rfl)) (by unfold Func.isWrapper; first | (rw [if_pos (by decide +kernel)]; kernel_rfl) | (rw [if_neg (by decide +kernel)]; exact ⟨rfl,rfl⟩))
  (fun os started H enc _=>lifted os started H enc)
end wholeTurnedLaw
theorem wholeTurned_holds:Rows.WholeTurnedSaid:=wholeTurnedLaw.over
#print axioms wholeTurned_holds
end Go.Proofs.YthckljafinhepaaGreat
