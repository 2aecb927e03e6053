/-
  Contract of slices.Insert at []string: one string, ahead of another.
-/
import Derived.Test.YthplkompdehjlaaGreatDoorZR46
import Derived.Test.YthplkompdehjlaaGreatDoorZR41
import Derived.Lib.AppendZerosOnto
import Derived.Test.YthplkompdehjlaaGreatDoorZR52
import Derived.Lib.Overlaps
import Derived.Shelf.Spec.SlicesInsert
set_option maxRecDepth 100000
namespace Go.Proofs.YthplkompdehjlaaGreatDoor
open Go.RowKit
set_option linter.unusedVariables false
theorem kW {base g n cap size:Nat} {e:TypeId}:∀ (vs:List Value) (o:Nat) (w:World) (xs:List Value),w.ownsRow base e size (.slice (some ⟨g,0,none⟩) n cap) n xs→o + vs.length≤n * size→(w.setCells g o vs).ownsRow base e size (.slice (some ⟨g,0,none⟩) n cap) n (aX xs o vs)
 | [],o,w,xs,h,_=>by
  show w.ownsRow base e size _ n (xs.take o++[]++xs.drop (o + 0))
  simpa using h
 | v :: r,o,w,xs,h,hl=>by
  simp only [List.length_cons] at hl
  have hx:=h.1
  rw [← put_cons xs o v r (by omega)]
  exact kW r (o + 1) _ _ (h.stored o v).1 (by omega)
theorem Low.setCells {w w':World} {m:List Nat} {g:Nat} (h:Low m w w') (hg:g∈m∨w.heap.size≤g) (o:Nat) (vs:List Value):Low m w (w'.setCells g o vs):=by
 have hs:∀ (vs:List Value) (o:Nat) (w:World),(w.setCells g o vs).heap.size=w.heap.size:=by
  intro vs
  induction vs with
  | nil=>intro o w; rfl
  | cons v r ih=>intro o w; show ((w.setCell ⟨g,o,none⟩ v).setCells g (o + 1) r).heap.size=_; rw [ih]; simp [World.setCell]
 have ht:∀ (vs:List Value) (o:Nat) (w:World),(w.setCells g o vs).tape=w.tape:=by
  intro vs
  induction vs with
  | nil=>intro o w; rfl
  | cons v r ih=>intro o w; show ((w.setCell ⟨g,o,none⟩ v).setCells g (o + 1) r).tape=_; rw [ih]; rfl
 refine ⟨(World.os_setCells _ _ _ _).trans h.os,(ht _ _ _).trans h.tape,(World.output_setCells _ _ _ _).trans h.output,Nat.le_trans h.size (Nat.le_of_eq (hs _ _ _).symm),fun k hk hm=>?_⟩
 have hne:k≠g:=fun e=>by
  subst e
  rcases hg with q | q
  ·exact hm q
  ·omega
 exact (World.heap_setCells_other _ _ _ _ (Nat.lt_of_lt_of_le hk h.size) hne).trans (h.block k hk hm)
theorem run_copy_many {P:Program} (w:World) (dT sT ty elem:TypeId) (kk b o dLen dCap:Nat) (a:Addr) (sLen sCap:Nat) (cs:List Value)
  (hu:P.underlying dT=some (.slice elem)) (hs:(P.info? elem).map (·.size)=some kk) (n:Nat) (hm:Nat.min sLen dLen=n) (hn:cs.length=n * kk)
  (hsrc:∀ j v,cs[j]?=some v→w.cell? (a.add j)=some v) (hc:∀ j,j < cs.length→(w.cell? ⟨b,o + j,none⟩).isSome=true) (hf:∀ j,j < cs.length→w.frozen? ⟨b,o + j,none⟩=false) (h1:∀ v∈cs,v.oneCell'=true) :
  (Builtin.copy_ #[dT,sT] ty #[.slice (some ⟨b,o,none⟩) dLen dCap,.slice (some a) sLen sCap]).run P w=.ok (goInt n) (w.setCells b o cs):=by
 have hl:=run_loadCells_list (P:=P) w a cs hsrc
 have hst:=run_storeCells_cells (P:=P) b o cs 0 w (by simpa using hc) (by simpa using hf) h1
 cases hq:P.info? elem with
 | none=>simp [hq] at hs
 | some i =>
  have hi:i.size=kk:=by simpa [hq] using hs
  simp [Builtin.copy_,run_underlying hu,Builtin.lenOf,Builtin.firstCells,sizeOf,typeInfo,hq,hi,hm,← hn,hl,hst]
theorem ins_flat {k n i:Nat} {l:List (List Value)} {r xs:List Value} (hk:Len k l) (hr:r.length=k) (hn:l.length=n) (hi:i≤n) (hx:xs.length=(n + 1) * k) (ht:xs.take (i * k)=(l.take i).flatten) :
  aX (aX xs ((i + 1) * k) (l.drop i).flatten) (i * k) r=(l.take i++r :: l.drop i).flatten:=by
 have hd:(l.drop i).flatten.length=(n - i) * k:=by rw [wK (k:=k) _ (fun r hr=>hk r (List.mem_of_mem_drop hr)),List.length_drop,hn]
 have e1:(i + 1) * k + (n - i) * k=(n + 1) * k:=by rw [← Nat.add_mul]; congr 1; omega
 have e2:(i + 1) * k=i * k + k:=Nat.succ_mul i k
 have e3:xs.drop ((n + 1) * k)=[]:=List.drop_eq_nil_of_le (by omega)
 have e4:(i + 1) * k≤(n + 1) * k:=Nat.mul_le_mul_right _ (by omega)
 have e5:(xs.take ((i + 1) * k)).drop ((i + 1) * k)=[]:=List.drop_eq_nil_of_le (by rw [List.length_take]; omega)
 rw [List.flatten_append,List.flatten_cons]
 unfold aX
 rw [hd,e1,e3,List.append_nil,hr,← e2,List.take_append_of_le_length (by rw [List.length_take]; omega),List.take_take,Nat.min_eq_left (by omega),ht,List.append_assoc]
 congr 1
 congr 1
 rw [List.drop_append_of_le_length (by rw [List.length_take]; omega),e5,List.nil_append]
theorem ins_flat' {k n i:Nat} {l:List (List Value)} {r xs:List Value} (hk:Len k l) (hr:r.length=k) (hn:l.length=n) (hi:i≤n) (hx:xs.length=(n + 1) * k) (ht:xs.take (i * k)=(l.take i).flatten) :
  aX (aX xs (i * k) r) ((i + 1) * k) (l.drop i).flatten=(l.take i++r :: l.drop i).flatten:=by
 have hd:(l.drop i).flatten.length=(n - i) * k:=by rw [wK (k:=k) _ (fun r hr=>hk r (List.mem_of_mem_drop hr)),List.length_drop,hn]
 have e1:(i + 1) * k + (n - i) * k=(n + 1) * k:=by rw [← Nat.add_mul]; congr 1; omega
 have e2:(i + 1) * k=i * k + k:=Nat.succ_mul i k
 have e4:(i + 1) * k≤(n + 1) * k:=Nat.mul_le_mul_right _ (by omega)
 have hl:(xs.take (i * k)++r).length=(i + 1) * k:=by rw [List.length_append,List.length_take,hr]; omega
 rw [List.flatten_append,List.flatten_cons]
 unfold aX
 rw [hd,e1,List.take_append_of_le_length (by omega),List.take_of_length_le (by omega),ht]
 have e3:((l.take i).flatten++r++xs.drop (i * k + r.length)).drop ((n + 1) * k)=[]:=List.drop_eq_nil_of_le (by
  rw [← ht,List.length_append,hl,List.length_drop,hr]; omega)
 rw [e3,List.append_nil,List.append_assoc]
theorem info_strS:(Tryz.prog.info? 9).map (fun i=>(i.zero,i.size,i.bytes))=some (some (.string ⟨#[]⟩),1,16):=by kernel_rfl
set_option maxHeartbeats 4000000 in
theorem insertS_room (g n c i vb:Nat) (l:List (List Value)) (r:List Value) (w:World) (h:w.ownsRow 0 9 1 (.slice (some ⟨g,0,none⟩) n c) n l.flatten) (hk:Len 1 l) (hr:r.length=1) (h1:One l) (h1r:∀ u∈r,u.oneCell'=true) (hn:l.length=n) (hi:i < n) (hsm:n≤1000) (hb:Box w vb r) (hne:vb≠g) (hroom:n + 1≤c) :
  Calls Tryz.prog 22 #[.slice (some ⟨g,0,none⟩) n c,.int .i64 i,.slice (some ⟨vb,0,none⟩) 1 1] w (fun e w'=>∃ v',e=.returned v'∧w'.ownsRow 0 9 1 v' (n + 1) (l.take i++r :: l.drop i).flatten∧Low [g] w w'∧v'.ownBlock=some g):=by
 obtain ⟨i0,hi0,hz0,hzs,hzb⟩:=info_parts info_strS
 have hsz:(Tryz.prog.info? 9).map (·.size)=some 1:=by rw [hi0]; simp [hzs]
 -- the row with one more
 obtain ⟨xs,hx,hxl,hxt,hcm⟩:∃ xs,w.ownsRow 0 9 1 (.slice (some ⟨g,0,none⟩) (n + 1) c) (n + 1) xs∧xs.length=(n + 1) * 1∧xs.take (n * 1)=l.flatten∧c≤maxLen:=by
  rcases h.2 with ⟨q,-⟩ | ⟨g',cap,cur,e,h0,hg,hnc,hcm,hcs,ht⟩
  ·cases q
  ·simp only [Value.slice.injEq,Option.some.injEq,Addr.mk.injEq,and_true,true_and] at e
   obtain ⟨rfl,rfl⟩:=e
   have hsz:cur.toList.length=c * 1:=by rw [Array.length_toList,hcs]
   refine ⟨cur.toList.take ((n + 1) * 1),⟨by rw [List.length_take,hsz]; omega,.inr ⟨g,c,cur,rfl,h0,hg,hroom,hcm,hcs,rfl⟩⟩,by rw [List.length_take,hsz]; omega,?_,hcm⟩
   rw [List.take_take,Nat.min_eq_left (by omega),ht]
 have hfl:l.flatten.length=n * 1:=by rw [wK l hk,hn]
 have hcs:∀ j v,l.flatten[j]?=some v→w.cell? ⟨g,j,none⟩=some v:=fun j v hj=>by rw [h.cellAt j (by have:=(List.getElem?_eq_some_iff.1 hj).1; omega)]; exact hj
 have hsp:∀ j,j < (n + 1) * 1→(w.cell? ⟨g,j,none⟩).isSome=true:=fun j hj=>by rw [hx.cellAt j hj,List.getElem?_eq_getElem (by omega)]; rfl
 have hfz:∀ j,w.frozen? ⟨g,j,none⟩=false:=fun j=>hx.frozenAt j
 have hdr:(l.drop i).flatten=l.flatten.drop (i * 1):=by
  have e0:(l.take i).flatten.length=i * 1:=by rw [wK (k:=1) _ (fun r hr=>hk r (List.mem_of_mem_take hr)),List.length_take,Nat.min_eq_left (by omega)]
  have e1:l.flatten=(l.take i).flatten++(l.drop i).flatten:=by rw [← List.flatten_append,List.take_append_drop]
  have e2:(l.take i).flatten.drop (i * 1)=[]:=List.drop_eq_nil_of_le (by omega)
  rw [e1,List.drop_append_of_le_length (by omega),e2,List.nil_append]
 have hdl:(l.drop i).flatten.length=(n - i) * 1:=by rw [wK (k:=1) _ (fun r hr=>hk r (List.mem_of_mem_drop hr)),List.length_drop,hn]
 have hd1:∀ v∈(l.drop i).flatten,v.oneCell'=true:=fun v hv=>by
  obtain ⟨r,hr,hur⟩:=List.mem_flatten.1 hv
  exact h1 r (List.mem_of_mem_drop hr) v hur
 obtain ⟨⟨t2,k2⟩,hsv⟩:∃ p,w.shape? vb=some p:=by
  have:=hb.cells 0 _ (List.getElem?_eq_getElem (by omega))
  unfold World.cell? at this
  unfold World.shape?
  split at this
  ·rename_i e; rw [e]; exact ⟨_,rfl⟩
  ·cases this
 obtain ⟨⟨t1,k1⟩,hsg,hk1⟩:∃ p,w.shape? g=some p∧p.2≠0:=by
  rcases h.2 with ⟨q,-⟩ | ⟨g',cap,cur,e,h0,hg,hnc,hcm,hcs,ht⟩
  ·cases q
  ·simp only [Value.slice.injEq,Option.some.injEq,Addr.mk.injEq,and_true,true_and] at e
   obtain ⟨rfl,rfl⟩:=e
   exact ⟨_,by unfold World.shape?; rw [hg],by simp only; omega⟩
 have hov:∀ lb cb,(callFunc 52 #[.slice (some ⟨vb,0,none⟩) 1 1,.slice (some ⟨g,(i + 1) * 1,none⟩) lb cb]).run Tryz.prog w=.ok (.value (.bool false)) w:=fun lb cb=>by
  rw [run_callFunc_extern Tryz.func52 (by kernel_rfl) (by kernel_rfl) (by kernel_rfl) (e:=Extern.SlicesOverlaps.overlaps #[44,44] #[4]) (by kernel_rfl),
   Lib.run_overlaps_apart w 44 4 9 Tryz.underlying44 1 (by intro w; simp [sizeOf,typeInfo,hi0,hzs]) ⟨vb,0,none⟩ ⟨g,(i + 1) * 1,none⟩ 1 1 lb cb hne t2 t1 k2 k1 hsv hsg hk1 (hb.free 0) (hb.free k2)]
  rfl
 have hcp1:∀ ty dc sc,(Builtin.copy_ #[44,44] ty #[.slice (some ⟨g,(i + 1) * 1,none⟩) (n - i) dc,.slice (some ⟨g,i * 1,none⟩) (n + 1 - i) sc]).run Tryz.prog w.drew=.ok (goInt ((n - i:Nat):Int)) (w.drew.setCells g ((i + 1) * 1) (l.drop i).flatten):=fun ty dc sc =>
  run_copy_many w.drew _ _ ty 9 1 g ((i + 1) * 1) (n - i) dc ⟨g,i * 1,none⟩ (n + 1 - i) sc (l.drop i).flatten Tryz.underlying44 hsz (n - i) (by simp only [Nat.min_def]; split <;> omega) hdl
   (fun j v hj=>by rw [Addr.add_lit]; rw [hdr,List.getElem?_drop] at hj; exact hcs _ v hj)
   (fun j hj=>hsp _ (by omega)) (fun j hj=>hfz _) hd1
 obtain ⟨W1,hW1⟩:∃ W1,W1=w.drew.setCells g ((i + 1) * 1) (l.drop i).flatten:=⟨_,rfl⟩
 have ho1:W1.ownsRow 0 9 1 (.slice (some ⟨g,0,none⟩) (n + 1) c) (n + 1) (aX xs ((i + 1) * 1) (l.drop i).flatten):=by
  rw [hW1]
  exact kW _ _ w.drew xs hx (by omega)
 have ho2:=kW r (i * 1) _ _ ho1 (by omega)
 rw [ins_flat (k:=1) hk hr hn (by omega) hxl (by
  have e0:(l.take i).flatten.length=i * 1:=by rw [wK (k:=1) _ (fun r hr=>hk r (List.mem_of_mem_take hr)),List.length_take,Nat.min_eq_left (by omega)]
  have e1:l.flatten=(l.take i).flatten++(l.drop i).flatten:=by rw [← List.flatten_append,List.take_append_drop]
  have e2:xs.take (i * 1)=(xs.take (n * 1)).take (i * 1):=by rw [List.take_take,Nat.min_eq_left (by omega)]
  rw [e2,hxt,e1,List.take_append_of_le_length (by omega),List.take_of_length_le (by omega)])] at ho2
 have hcp2:∀ ty dc,(Builtin.copy_ #[44,44] ty #[.slice (some ⟨g,i * 1,none⟩) (n + 1 - i) dc,.slice (some ⟨vb,0,none⟩) 1 1]).run Tryz.prog W1=.ok (goInt ((1:Nat):Int)) (W1.setCells g (i * 1) r):=fun ty dc =>
  run_copy_many W1 _ _ ty 9 1 g (i * 1) (n + 1 - i) dc ⟨vb,0,none⟩ 1 1 r Tryz.underlying44 hsz 1 (by simp only [Nat.min_def]; split <;> omega) (by omega)
   (fun j v hj=>by
    rw [Addr.add_lit,hW1,World.cell?_setCells_out g _ _ _ _ (fun h _=>absurd h hne),Nat.zero_add]
    exact hb.cells j v hj)
   (fun j hj=>by rw [ho1.cellAt _ (by omega),List.getElem?_eq_getElem (by rw [ho1.1]; omega)]; rfl) (fun j hj=>ho1.frozenAt _) h1r
 have hlow:Low [g] w (W1.setCells g (i * 1) r):=by
  rw [hW1]
  exact Low.setCells (Low.setCells (w:=w) (w':=w.drew) ⟨rfl,rfl,rfl,Nat.le_refl _,fun _ _ _=>rfl⟩ (.inl (List.mem_singleton.2 rfl)) _ _) (.inl (List.mem_singleton.2 rfl)) _ _
 rw [← hW1] at hcp1
 simp only [Nat.mul_one] at ho2 hlow hcp1 hcp2 hov
 have F:=Lib.hid (And.intro ho2 hlow)
 have HV:=Lib.hid hov
 have H1:=Lib.hid hcp1
 have H2:=Lib.hid hcp2
 have mixed:Tryz.prog.follows .mixedOrders=true:=by kernel_rfl
 have hz1:((1:Int) == 0)=false:=rfl
 have hz2:((i:Int) == (n:Int))=false:=beq_eq_false_iff_ne.2 (by omega)
 have hw1:IntKind.i64.wrap ((i:Int) + 1)=(i:Int) + 1:=by rw [IntKind.wrap_i64]; omega
 have hw2:IntKind.i64.wrap ((n:Int) + 1)=(n:Int) + 1:=by rw [IntKind.wrap_i64]; omega
 have hb0:(0:Int)≤(i:Int):=by omega
 have hb1:(0:Int)≤(i:Int) + 1:=by omega
 have hb5:(i:Int)≤(n:Int):=by omega
 have hb6:(i:Int)≤(c:Int):=by omega
 have htn:((i:Int) + 1).toNat=i + 1:=by omega
 have hb2:¬ (c=i + 1):=by omega
 have hb3:(i:Int)≤(n:Int) + 1:=by omega
 have hb4:¬ (c=i):=by omega
 have hb7:(n:Int) + 1≤(c:Int):=by omega
 have hb8:¬ ((c:Int) < (n:Int) + 1):=by omega
 have htm:((n:Int) + 1).toNat=n + 1:=by omega
 clear hov hcp1 hcp2 hlow ho1 ho2 hsv hsg hd1 hdl hdr hfz hsp hcs hfl hx hxl hxt hb h hW1
 go_enter Tryz.func22,Tryz.ntmps22
 go_wp2_with (simp only [HV.out])
 go_region_law (refine step_copy_runI rfl _ _ 44 44 rfl (.slice (some ⟨g,i + 1,none⟩) (n - i) (c - (i + 1))) (.slice (some ⟨g,i,none⟩) (n + 1 - i) (c - i)) (by simp [Act.eval,Act.put]) (by simp [Act.eval,Act.put]) (H1.out 3 (c - (i + 1)) (c - i)) ?_)
 go_wp2_with (simp only [H2.out])
 go_ret
 exact ⟨_,rfl,F.out.1,F.out.2,rfl⟩
set_option maxHeartbeats 4000000 in
theorem insertS_grow (g n i vb:Nat) (l:List (List Value)) (r:List Value) (w:World) (h:w.ownsRow 0 9 1 (.slice (some ⟨g,0,none⟩) n n) n l.flatten) (hk:Len 1 l) (hr:r.length=1) (h1:One l) (h1r:∀ u∈r,u.oneCell'=true) (hn:l.length=n) (hi:i < n) (hsm:n≤1000) (hb:Box w vb r) (hne:vb≠g) :
  Calls Tryz.prog 22 #[.slice (some ⟨g,0,none⟩) n n,.int .i64 i,.slice (some ⟨vb,0,none⟩) 1 1] w (fun e w'=>∃ v',e=.returned v'∧w'.ownsRow 0 9 1 v' (n + 1) (l.take i++r :: l.drop i).flatten∧Low [g] w w'∧v'.ownBlock=some w.heap.size):=by
 obtain ⟨i0,hi0,hz0,hzs,hzb⟩:=info_parts info_strS
 have hsz:(Tryz.prog.info? 9).map (·.size)=some 1:=by rw [hi0]; simp [hzs]
 have hroom:n < n + 1:=by omega
 have hfl:l.flatten.length=n * 1:=by rw [wK l hk,hn]
 have hcs:∀ j v,l.flatten[j]?=some v→w.cell? ⟨g,j,none⟩=some v:=fun j v hj=>by rw [h.cellAt j (by have:=(List.getElem?_eq_some_iff.1 hj).1; omega)]; exact hj
 have hgw:g < w.heap.size:=(h.lt g rfl).2
 have hvw:=hb.lt
 have e0:(l.take i).flatten.length=i * 1:=by rw [wK (k:=1) _ (fun r hr=>hk r (List.mem_of_mem_take hr)),List.length_take,Nat.min_eq_left (by omega)]
 have e1:l.flatten=(l.take i).flatten++(l.drop i).flatten:=by rw [← List.flatten_append,List.take_append_drop]
 have hdr:(l.drop i).flatten=l.flatten.drop (i * 1):=by
  have e2:(l.take i).flatten.drop (i * 1)=[]:=List.drop_eq_nil_of_le (by omega)
  rw [e1,List.drop_append_of_le_length (by omega),e2,List.nil_append]
 have hdl:(l.drop i).flatten.length=(n - i) * 1:=by rw [wK (k:=1) _ (fun r hr=>hk r (List.mem_of_mem_drop hr)),List.length_drop,hn]
 have hd1:∀ v∈(l.drop i).flatten,v.oneCell'=true:=fun v hv=>by
  obtain ⟨r,hr,hur⟩:=List.mem_flatten.1 hv
  exact h1 r (List.mem_of_mem_drop hr) v hur
 have hold:(Builtin.firstCells i0.size i (.slice (some ⟨g,0,none⟩) i n)).run Tryz.prog w.drew=.ok (l.take i).flatten.toArray w.drew:=by
  rw [hzs]
  exact run_firstCells_some (w:=w.drew) 1 i ⟨g,0,none⟩ i n (l.take i).flatten e0 (fun j v hj=>by
   rw [Addr.add_lit,Nat.zero_add]
   exact hcs j v (by rw [e1,List.getElem?_append_left (List.getElem?_eq_some_iff.1 hj).1]; exact hj))
 obtain ⟨Z,hZ⟩:∃ Z:Value,Z=.string ⟨#[]⟩:=⟨_,rfl⟩
 have hzc:Z.cells.size=1:=by rw [hZ]; rfl
 rw [← hZ] at hz0
 have hik:i + (n + 1 - i)=n + 1:=by omega
 have hkk:(n:Int) + 1 - (i:Int)=((n + 1 - i:Nat):Int):=by omega
 have hrz:∀ ty,(Builtin.append_ #[44,3] ty #[.slice (some ⟨g,0,none⟩) i n,.int .i64 ((n:Int) + 1 - (i:Int))]).run Tryz.prog w =
   .ok (.slice (some ⟨w.heap.size,0,none⟩) (n + 1) (grownCap w (n + 1) n 9)) (w.drew.alloc (.cells ((l.take i).flatten.toArray++Builtin.zeroCells Z.cells (n + 1 - i)++Builtin.zeroCells Z.cells (grownCap w (n + 1) n 9 - (n + 1))) 9)):=fun ty=>by
  have h:=Lib.run_append_grow_zeros w 44 3 ty 9 i0 _ .i64 .i64 Tryz.underlying44 Tryz.underlying3 hi0 hz0 (some ⟨g,0,none⟩) i n _ hold (n + 1 - i) (by omega) (by omega) (by omega) (by omega) (by rw [hzb]; omega) (by rw [hzb,hik]; exact growslice_fits hroom (by omega))
  rw [hik] at h
  rw [hkk]
  exact h
 have hGn:n + 1≤grownCap w (n + 1) n 9:=grownCap_ge w _ _ _
 have hG63:grownCap w (n + 1) n 9≤maxLen:=grownCap_le_maxLen w (n + 1) n 9 (by unfold maxLen; omega)
 obtain ⟨G,hG⟩:∃ G,G=grownCap w (n + 1) n 9:=⟨_,rfl⟩
 obtain ⟨ROW,hROW⟩:∃ ROW:Array Value,ROW=(l.take i).flatten.toArray++Builtin.zeroCells Z.cells (n + 1 - i)++Builtin.zeroCells Z.cells (G - (n + 1)):=⟨_,rfl⟩
 rw [← hG] at hrz hGn hG63
 rw [← hROW] at hrz
 have hRl:ROW.size=G * 1:=by
  rw [hROW]
  simp only [Array.size_append,List.size_toArray,e0,Builtin.zeroCells,hzc]
  simp
  omega
 have hRt:(ROW.toList.take ((n + 1) * 1)).take (i * 1)=(l.take i).flatten:=by
  rw [List.take_take,Nat.min_eq_left (by omega),hROW]
  simp only [Array.toList_append,List.append_assoc]
  rw [List.take_append_of_le_length (by omega),List.take_of_length_le (by omega)]
 obtain ⟨W1,hW1⟩:∃ W1,W1=w.drew.alloc (.cells ROW 9):=⟨_,rfl⟩
 have ho0:W1.ownsRow 0 9 1 (.slice (some ⟨w.heap.size,0,none⟩) (n + 1) G) (n + 1) (ROW.toList.take ((n + 1) * 1)):=by
  rw [hW1]
  exact ⟨by rw [List.length_take,Array.length_toList,hRl]; omega,.inr ⟨w.heap.size,G,ROW,rfl,Nat.zero_le _,heap_alloc_new w.drew _,hGn,hG63,hRl,rfl⟩⟩
 have hxl:=ho0.1
 have ho1:=kW r (i * 1) _ _ ho0 (by omega)
 obtain ⟨W2,hW2⟩:∃ W2,W2=W1.setCells w.heap.size (i * 1) r:=⟨_,rfl⟩
 rw [← hW2] at ho1
 have ho2:=kW (l.drop i).flatten ((i + 1) * 1) W2.drew _ ho1 (by omega)
 rw [ins_flat' (k:=1) hk hr hn (by omega) hxl hRt] at ho2
 have hlow:Low [g] w (W2.drew.setCells w.heap.size ((i + 1) * 1) (l.drop i).flatten):=by
  refine Low.setCells (w':=W2.drew) ?_ (.inr (Nat.le_refl _)) _ _
  have hl2:Low [g] w W2:=by
   rw [hW2]
   refine Low.setCells (w':=W1) ?_ (.inr (Nat.le_refl _)) _ _
   rw [hW1]
   have hb:=((Evo.refl w).drew.alloc (.cells ROW 9)).below
   exact ⟨hb.os,hb.tape,hb.output,hb.size,fun k hk _=>hb.block k hk⟩
  exact ⟨hl2.os,hl2.tape,hl2.output,hl2.size,hl2.block⟩
 have hOl:∀ b j v,b < w.heap.size→w.cell? ⟨b,j,none⟩=some v→W1.cell? ⟨b,j,none⟩=some v:=fun b j v hb h=>by rw [hW1,World.cell?_alloc_past (w:=w.drew) _ b j hb]; exact h
 have hcp1:∀ ty dc,(Builtin.copy_ #[44,44] ty #[.slice (some ⟨w.heap.size,i * 1,none⟩) (n + 1 - i) dc,.slice (some ⟨vb,0,none⟩) 1 1]).run Tryz.prog W1=.ok (goInt ((1:Nat):Int)) W2:=fun ty dc=>by
  rw [hW2]
  exact run_copy_many W1 _ _ ty 9 1 w.heap.size (i * 1) (n + 1 - i) dc ⟨vb,0,none⟩ 1 1 r Tryz.underlying44 hsz 1 (by simp only [Nat.min_def]; split <;> omega) (by omega)
   (fun j v hj=>by rw [Addr.add_lit,Nat.zero_add]; exact hOl _ _ _ hvw (hb.cells j v hj))
   (fun j hj=>by rw [ho0.cellAt _ (by omega),List.getElem?_eq_getElem (by omega)]; rfl) (fun j hj=>ho0.frozenAt _) h1r
 have hcp2:∀ ty dc sc,(Builtin.copy_ #[44,44] ty #[.slice (some ⟨w.heap.size,(i + 1) * 1,none⟩) (n - i) dc,.slice (some ⟨g,i * 1,none⟩) (n - i) sc]).run Tryz.prog W2.drew=.ok (goInt ((n - i:Nat):Int)) (W2.drew.setCells w.heap.size ((i + 1) * 1) (l.drop i).flatten):=fun ty dc sc =>
  run_copy_many W2.drew _ _ ty 9 1 w.heap.size ((i + 1) * 1) (n - i) dc ⟨g,i * 1,none⟩ (n - i) sc (l.drop i).flatten Tryz.underlying44 hsz (n - i) (by simp only [Nat.min_def]; split <;> omega) hdl
   (fun j v hj=>by
    rw [Addr.add_lit]
    rw [hdr,List.getElem?_drop] at hj
    show W2.cell? _=_
    rw [hW2,World.cell?_setCells_out _ _ _ _ _ (fun h _=>absurd h (by simp only; omega))]
    exact hOl _ _ _ hgw (hcs _ v hj))
   (fun j hj=>by show (W2.cell? _).isSome=true; rw [ho1.cellAt _ (by omega),List.getElem?_eq_getElem (by rw [ho1.1]; omega)]; rfl) (fun j hj=>ho1.frozenAt _) hd1
 rw [← hW1] at hrz
 simp only [Nat.mul_one] at ho2 hlow hcp1 hcp2
 have F:=Lib.hid (And.intro ho2 hlow)
 have HR:=Lib.hid hrz
 have H1:=Lib.hid hcp1
 have H2:=Lib.hid hcp2
 have mixed:Tryz.prog.follows .mixedOrders=true:=by kernel_rfl
 have hz1:((1:Int) == 0)=false:=rfl
 have hz2:((i:Int) == (n:Int))=false:=beq_eq_false_iff_ne.2 (by omega)
 have hw1:IntKind.i64.wrap ((i:Int) + 1)=(i:Int) + 1:=by rw [IntKind.wrap_i64]; omega
 have hw2:IntKind.i64.wrap ((n:Int) + 1)=(n:Int) + 1:=by rw [IntKind.wrap_i64]; omega
 have hb0:(0:Int)≤(i:Int):=by omega
 have hb1:(0:Int)≤(i:Int) + 1:=by omega
 have hb5:(i:Int)≤(n:Int):=by omega
 have htn:((i:Int) + 1).toNat=i + 1:=by omega
 have hb2:¬ (G=i + 1):=by omega
 have hb3:(i:Int)≤(n:Int) + 1:=by omega
 have hb4:¬ (G=i):=by omega
 have hb9:¬ (n=i):=by omega
 have hb7:(n:Int) < (n:Int) + 1:=by omega
 clear hrz hcp1 hcp2 hlow ho0 ho1 ho2 hOl hd1 hdl hdr hcs hfl hb h hW1 hW2 hROW hRt hRl hxl hold e0 e1 hG hkk hik hz0 hzc
 go_enter Tryz.func22,Tryz.ntmps22
 go_wp2_with (first | (at_builtin; refine Lib.wpList_append_run _ rfl _ _ _ _ rfl _ _ rfl rfl _ _ (HR.out _) ?_) | simp only [H1.out])
 go_region_law (refine step_copy_runI rfl _ _ 44 44 rfl (.slice (some ⟨w.heap.size,i + 1,none⟩) (n - i) (G - (i + 1))) (.slice (some ⟨g,i,none⟩) (n - i) (n - i)) (by simp [Act.eval,Act.put]) (by simp [Act.eval,Act.put]) (H2.out 3 (G - (i + 1)) (n - i)) ?_)
 go_wp2_with fail
 go_ret
 exact ⟨_,rfl,F.out.1,F.out.2,rfl⟩
theorem c_insertS (v:Value) (l:List (List Value)) (i vb:Nat) (r:List Value) (h:Vw) (hk:Len 1 l) (hr:r.length=1) (h1:One l) (h1r:∀ u∈r,u.oneCell'=true) (hi:i < l.length) (hsm:l.length≤1000) :
  ConE Tryz.prog 22 #[v,.int .i64 i,.slice (some ⟨vb,0,none⟩) 1 1] h [.row v 9 1 l,.box vb r] (fun r' Bo _=>∃ u,r'=.slice (sA u) (sN u) (sC u)∧Bo=[.row (.slice (sA u) (sN u) (sC u)) 9 1 (l.take i++r :: l.drop i),.box vb r]):=by
 intro hok hnd hbad hlt
 have hrow:Ent.ok 0 h.w (.row v 9 1 l):=hok _ (by simp)
 have hbox:Box h.w vb r:=hok (.box vb r) (by simp)
 have hw:h.w.ownsRow 0 9 1 v l.length l.flatten:=hrow.1
 obtain ⟨g,c,rfl,-,hgw⟩:=hw.form (by omega)
 have hne:vb≠g:=fun e=>by
  subst e
  simp [blk,Ent.blocks,Value.ownBlock] at hnd
 have hnc:l.length≤c:=by
  rcases hw.2 with ⟨q,-⟩ | ⟨g',cap,cur,e,h0,hg,hnc,-⟩
  ·cases q
  ·simp only [Value.slice.injEq] at e
   obtain ⟨-,-,rfl⟩:=e
   exact hnc
 have key:Calls Tryz.prog 22 #[.slice (some ⟨g,0,none⟩) l.length c,.int .i64 i,.slice (some ⟨vb,0,none⟩) 1 1] h.w (fun e w'=>∃ v',e=.returned v'∧w'.ownsRow 0 9 1 v' (l.length + 1) (l.take i++r :: l.drop i).flatten∧Low [g] h.w w'∧(v'.ownBlock=some g∨v'.ownBlock=some h.w.heap.size)):=by
  rcases Nat.lt_or_ge l.length c with q | q
  ·exact (insertS_room g l.length c i vb l r h.w hw hk hr h1 h1r rfl hi hsm hbox hne q).mono fun e w' ⟨v',a1,a2,a3,a4⟩=>⟨v',a1,a2,a3,.inl a4⟩
  ·obtain rfl:c=l.length:=by omega
   exact (insertS_grow g l.length i vb l r h.w hw hk hr h1 h1r rfl hi hsm hbox hne).mono fun e w' ⟨v',a1,a2,a3,a4⟩=>⟨v',a1,a2,a3,.inr a4⟩
 refine key.mono ?_
 rintro e w' ⟨v',rfl,ho,hl,hb⟩
 obtain ⟨g',c',rfl,-,-⟩:=ho.form (by omega)
 have hll:(l.take i++r :: l.drop i).length=l.length + 1:=by simp; omega
 have hb:g'=g∨g'=h.w.heap.size:=by simpa [Value.ownBlock] using hb
 have hne':g'≠vb:=fun e=>by
  rcases hb with q | q
  ·exact hne (e.symm.trans q)
  ·have:=hbox.lt; omega
 refine ⟨_,[.row (.slice (some ⟨g',0,none⟩) (l.length + 1) c') 9 1 (l.take i++r :: l.drop i),.box vb r],rfl,⟨hl.os,hl.tape,hl.output,hl.size,fun k hk hm=>hl.block k hk fun q=>hm ?_⟩,fun e he=>?_,?_,fun b hb'=>?_,.slice (some ⟨g',0,none⟩) (l.length + 1) c',rfl,rfl⟩
 ·rw [List.mem_singleton.1 q]; simp [blk,Ent.blocks,Value.ownBlock]
 ·rcases List.mem_cons.1 he with rfl | he
  ·refine ⟨by rw [hll]; exact ho,fun r' hr'=>?_⟩
   rcases List.mem_append.1 hr' with q | q
   ·exact hk r' (List.mem_of_mem_take q)
   ·rcases List.mem_cons.1 q with rfl | q
    ·exact hr
    ·exact hk r' (List.mem_of_mem_drop q)
  ·rw [List.mem_singleton.1 he]
   refine ok_block (e:=.box vb r) hbox hl.size fun b hb'=>hl.block b ?_ ?_
   ·simp [Ent.blocks] at hb'; rw [hb']; exact hbox.lt
   ·simp [Ent.blocks] at hb'; rw [hb']; simpa using hne
 ·simp [blk,Ent.blocks,Value.ownBlock,hne']
 ·simp [blk,Ent.blocks,Value.ownBlock] at hb' ⊢
  rcases hb' with rfl | rfl
  ·rcases hb with q | q
   ·exact .inl (.inl q)
   ·exact .inr (by omega)
  ·exact .inl (.inr rfl)
end Go.Proofs.YthplkompdehjlaaGreatDoor
