/-
  names.Of: the fields that a formula asks for, each once, rising. (Imports the seat's Iter text: wip/iter.sh.)
-/
import Derived.Test.YthplkompdehjlaaGreatDoorZR37
import Derived.Test.YthplkompdehjlaaGreatDoorZR19
import Derived.Test.YthplkompdehjlaaGreatDoorZR43
import Derived.Test.YthplkompdehjlaaGreatDoorZR9
import Derived.Test.YthplkompdehjlaaGreatDoorZR5
import Derived.Test.YthplkompdehjlaaGreatDoorZR42
import Derived.Test.YthplkompdehjlaaGreatDoorZR40
set_option maxRecDepth 100000
namespace Go.Proofs.YthplkompdehjlaaGreatDoor
open Go.RowKit Go.Shelf Go.Maps Go.Sort
attribute [local go_sem] Oper.semAt_some
theorem key_iff {s:ByteArray}:∀ {l:List (ByteArray × Value)},s∈l.map (·.1)↔sget s l≠none
 | []=>by simp [sget]
 | (k,v) :: l=>by
  rw [List.map_cons,List.mem_cons,key_iff (l:=l)]
  rw [show sget s ((k,v) :: l)=if s == k then some v else sget s l from rfl]
  by_cases e:(s == k)=true
  ·rw [if_pos e]
   exact ⟨fun _=>Option.some_ne_none v,fun _=>.inl ((Go.MapKept.bytes_beq s k).1 e)⟩
  ·rw [if_neg e]
   exact ⟨fun h=>h.elim (fun q=>absurd ((Go.MapKept.bytes_beq s k).2 q) e) (fun q=>q),.inr⟩
def MetAt (W:World) (M:Nat) (pre:List ByteArray):Prop:=∃ l,W.heap[M]?=some (nV (dY l))∧(∀ s,s∈l.map (·.1)↔s∈pre)∧(l.map (·.1)).Nodup∧∀ p∈l,p.2=.bool true
theorem met_nil {W:World} {M:Nat} (h:W.heap[M]?=some (nV (dY []))):MetAt W M []:=⟨[],h,fun s=>by simp,List.nodup_nil,fun p hp=>by cases hp⟩
theorem met_put {P:Program} {W:World} {M:Nat} {pre:List ByteArray} {t kt et:TypeId} (s:ByteArray) (h:MetAt W M pre) (ht:P.underlying t=some (.map kt et)) (htd:P.underlying kt=some .string) :
  ∃ o W',(Instr.mapUpdate t (.map (some M)) (.string s) (.bool true)).run P W=.ok () W'∧W'={ W with heap:=W.heap.setIfInBounds M o }∧MetAt W' M (pre++[s]):=by
 obtain ⟨l,h1,h2,h3,h4⟩:=h
 obtain ⟨l',hu,hg,hn,hm⟩:=run_update_str (P:=P) (s:=s) (v:=.bool true) h1 ht htd
 refine ⟨_,_,hu,rfl,l',(Go.MapKept.heap_set h1).1,fun x=>?_,hn h3,fun p hp=>?_⟩
 ·rw [key_iff,hg x,List.mem_append,List.mem_singleton,← h2 x,key_iff]
  by_cases e:x=s
  ·rw [if_pos e]; simp [e]
  ·rw [if_neg e]; simp [e]
 ·rcases hm p hp with q | q
  ·exact h4 p q
  ·rw [q]
theorem nodup_le {α:Type}:∀ {l m:List α},l.Nodup→(∀ x∈l,x∈m)→l.length≤m.length
 | [],m,_,_=>Nat.zero_le _
 | x :: l,m,hn,hs=>by
  obtain ⟨s,t,rfl⟩:=List.append_of_mem (hs x (by simp))
  have hx:=List.nodup_cons.1 hn
  have:=nodup_le (m:=s++t) hx.2 (fun y hy=>by
   rcases List.mem_append.1 (hs y (by simp [hy])) with q | q
   ·exact List.mem_append_left _ q
   ·rcases List.mem_cons.1 q with rfl | q
    ·exact absurd hy hx.1
    ·exact List.mem_append_right _ q)
  simp only [List.length_append,List.length_cons] at this ⊢
  omega
theorem refs_ok {s:ByteArray} {x:Ex} (hw:WfE x) (hs:s∈iX x):oJ s.data.toList:=by
 revert hw hs
 refine ex_ind (p:=fun x=>WfE x→s∈iX x→oJ s.data.toList) (fun x ih hw hs=>?_) x
 rw [refsE_eq,List.mem_append] at hs
 rcases hs with hs | hs
 ·by_cases h2:x.op=2
  ·rw [if_pos h2] at hs
   rw [List.mem_singleton.1 hs]; exact (ref_shape hw h2).2
  ·rw [if_neg h2] at hs; cases hs
 ·obtain ⟨y,hy,hys⟩:=mem_refsL.1 hs
  exact ih y hy (hw.list.get hy) hys
theorem refs_len (x:Ex):(iX x).length≤(szE x).1:=by
 refine ex_ind (p:=fun x=>(iX x).length≤(szE x).1) (fun x ih=>?_) x
 rw [refsE_eq,fY,List.length_append]
 have hL:∀ l:List Ex,(∀ y∈l,(iX y).length≤(szE y).1)→(jX l).length≤(szL l).1:=by
  intro l
  induction l with
  | nil=>intro _; simp [jX]
  | cons y l ih2 =>
   intro h
   have h1:=h y (by simp)
   have h2:=ih2 (fun z hz=>h z (by simp [hz]))
   rw [jX,szL,List.length_append]
   simp only
   omega
 have:=hL x.args ih
 simp only
 split <;> simp <;> omega
set_option maxHeartbeats 4000000 in
theorem of_in (x:Ex) (v:Value) (w:World) (bad:List Nat) (hx:IsArgs ⟨w,bad⟩ x v) (hw:WfE x) (hsz:(szE x).1 < 1000000) (hcx:chkE x=0) :
  CallsIn Fence.wide 6 Tryz.prog 125 #[.agg #[.int .i64 x.op,.int .i64 x.k,.int .i64 x.n,.string x.s,.string x.nm,v]] w (fun e W'=>∃ (r:Value) (ss:List (List UInt8)) (D0:DataW Unit),e=.returned (.tuple #[r,.int .i64 0])∧ss.Perm (strKeys D0)∧(strKeys D0).Nodup∧(∀ s:ByteArray,s.data.toList∈strKeys D0↔s∈iX x)∧W'.ownsRow w.heap.size 9 1 r ss.length ((ss.mergeSort (fun x y=>decide (x≤y))).map Go.Proofs.encStr)∧(r=.slice none 0 0↔ss=[])∧Below w.heap.size w W'):=by
 have h1:1≤6:=by omega
 obtain ⟨xA,xn,xc,rfl⟩:=hx.slice
 have HX:=Lib.hid hx
 have HW:=Lib.hid hw
 refine callsIn_of_wp_marks Tryz.func125 rfl trivial ?_ rfl
 simp only [Tryz.ntmps125,List.size_toArray,List.length_cons,List.length_nil,Nat.reduceAdd,Nat.reduceSub,Array.replicate_succ,Array.replicate_zero,List.push_toArray,List.append_toArray,List.nil_append,List.cons_append]
 have hs0:Sees ⟨w,bad⟩ ⟨w.alloc (.cells #[.int .i64 x.op,.int .i64 x.k,.int .i64 x.n,.string x.s,.string x.nm,.slice xA xn xc] 27),bad⟩:=sees_below ((Below.refl _ w).alloc (Nat.le_refl _) _)
 have hck:CallsIn Fence.wide (6 - 1) Tryz.prog 25 #[.agg #[.int .i64 x.op,.int .i64 x.k,.int .i64 x.n,.string x.s,.string x.nm,.slice xA xn xc]] (w.alloc (.cells #[.int .i64 x.op,.int .i64 x.k,.int .i64 x.n,.string x.s,.string x.nm,.slice xA xn xc] 27)) (fun e W'=>e=.returned (.int .i64 0)∧Below (w.alloc (.cells #[.int .i64 x.op,.int .i64 x.k,.int .i64 x.n,.string x.s,.string x.nm,.slice xA xn xc] 27)).heap.size (w.alloc (.cells #[.int .i64 x.op,.int .i64 x.k,.int .i64 x.n,.string x.s,.string x.nm,.slice xA xn xc] 27)) W'):=by
  refine callsIn_wide.2 ((check_any x (.slice xA xn xc) ⟨w.alloc (.cells #[.int .i64 x.op,.int .i64 x.k,.int .i64 x.n,.string x.s,.string x.nm,.slice xA xn xc] 27),[]⟩ (hx.sees ⟨hs0.size,fun b hb _=>((Below.refl _ w).alloc (Nat.le_refl _) _).block b hb,fun _ h=>(by cases h)⟩) hw hsz (fun x hx=>by cases hx) (by simp) (by simp) (by simp)).mono ?_)
  rintro e W' ⟨r,Bo,rfl,hlo,-,-,rfl⟩
  exact ⟨by rw [hcx],hlo.below⟩
 gi_wp2_with ((try refine ⟨trivial,?_⟩); (try refine ⟨lY _,?_⟩); gi_at_call 25; refine hck.mono ?_; clear hck; rintro e W1 ⟨rfl,hB1⟩)
 have bx0:=Box.new w #[.int .i64 x.op,.int .i64 x.k,.int .i64 x.n,.string x.s,.string x.nm,.slice xA xn xc] 27
 have hz0:(w.alloc (.cells #[.int .i64 x.op,.int .i64 x.k,.int .i64 x.n,.string x.s,.string x.nm,.slice xA xn xc] 27)).heap.size=w.heap.size + 1:=by simp
 have hBw:Below w.heap.size w W1:=((Below.refl _ w).alloc (Nat.le_refl _) _).trans (hB1.mono (by simp))
 generalize (w.alloc (.cells #[.int .i64 x.op,.int .i64 x.k,.int .i64 x.n,.string x.s,.string x.nm,.slice xA xn xc] 27))=W0 at *
 obtain ⟨M,hM⟩:∃ M,M=W1.heap.size:=⟨_,rfl⟩
 have hb1:=bx0.low hB1 (by omega)
 have hsz1:=hB1.size
 obtain ⟨W2,hW2⟩:∃ W2,W2=W1.alloc (.map #[] 0):=⟨_,rfl⟩
 obtain ⟨W3,hW3⟩:∃ W3,W3=W2.alloc (.cells #[.map (some M)] 194):=⟨_,rfl⟩
 have hb3:Box W3 w.heap.size [.int .i64 x.op,.int .i64 x.k,.int .i64 x.n,.string x.s,.string x.nm,.slice xA xn xc]:=by
  rw [hW3,hW2]
  exact hb1.low (((Below.refl _ W1).alloc (Nat.le_refl _) _).alloc (by simp) _) (by omega)
 have c0:=hb3.cells 0 _ rfl
 have c1:=hb3.cells 1 _ rfl
 have c2:=hb3.cells 2 _ rfl
 have c3:=hb3.cells 3 _ rfl
 have c4:=hb3.cells 4 _ rfl
 have c5:=hb3.cells 5 _ rfl
 rw [hW3,hW2,hM] at c0 c1 c2 c3 c4 c5
 simp only [run_makeMap,Result.andThen]
 gi_wp2_with ((try refine ⟨trivial,?_⟩); (try refine ⟨lY _,?_⟩); gi_at_call 145; refine (refs_in x (.slice xA xn xc) (6 - 1) _).mono ?_; rintro e w' ⟨rfl,rfl⟩)
 rw [← hM,← hW2,← hW3]
 have z2:W2.heap.size=M + 1:=by rw [hW2,hM]; simp
 have z3:W3.heap.size=M + 1 + 1:=by rw [hW3,World.size_alloc,z2]
 have m3:W3.heap[M]?=some (nV (dY [])):=by
  rw [hW3]
  refine ((Go.MapKept.heap_alloc _ _).2 _ (by omega)).trans ?_
  rw [hW2,hM]; exact (Go.MapKept.heap_alloc _ _).1
 have b3:Boxed W3 (M + 1) 194 (.map (some M)):=by rw [hW3,← z2]; exact Boxed.new _ _ _
 obtain ⟨W4,hW4⟩:∃ W4,W4=W3.alloc (.cells #[.int .i64 x.op,.int .i64 x.k,.int .i64 x.n,.string x.s,.string x.nm,.slice xA xn xc] 27):=⟨_,rfl⟩
 have z4:W4.heap.size=M + 1 + 1 + 1:=by rw [hW4,World.size_alloc,z3]
 have m4:W4.heap[M]?=some (nV (dY [])):=by rw [hW4]; exact ((Go.MapKept.heap_alloc _ _).2 _ (by omega)).trans m3
 have b4:Boxed W4 (M + 1) 194 (.map (some M)):=by rw [hW4]; exact b3.alloc _
 have x4:W4.heap[M + 1 + 1]?=some (.cells #[.int .i64 x.op,.int .i64 x.k,.int .i64 x.n,.string x.s,.string x.nm,.slice xA xn xc] 27 (0,0)):=by rw [hW4,← z3]; exact World.alloc_heap_new _ _
 have hB4:Below w.heap.size w W4:=by
  rw [hW4,hW3,hW2]
  exact hBw.trans (((((Below.refl _ W1).alloc (Nat.le_refl _) _).alloc (by simp) _).alloc (by simp; omega) _).mono (by omega))
 rw [← hW4]
 clear hW4 hW3 hW2 c0 c1 c2 c3 c4 c5 hb3 m3 b3 z2 z3
 have HB:=Lib.hid hB4
 have HM:=Lib.hid m4
 have HBX:=Lib.hid b4
 have HX4:=Lib.hid x4
 clear hB4 m4 b4 x4 hb1 bx0 hB1 hs0 hx hw
 subst hM
 refine wpIn_rangeFunc_ownG (α:=ByteArray) rfl h1 (gf:=159) (lb:=#[.pointer (some ⟨W1.heap.size + 1 + 1,0,none⟩)]) rfl trivial (enters_of Tryz.func159 (by kernel_rfl) rfl)
  (refs_stops x (.slice xA xn xc) ⟨w,bad⟩ HX.out HW.out (6 - 1) (W1.heap.size + 1 + 1) W4 HB.out HX4.out) kp_t (kp_b HB.out.size) (Below.refl _ _) (fun _=>rfl)
  (fun pre W=>(MetAt W W1.heap.size pre∧Boxed W (W1.heap.size + 1) 194 (.map (some W1.heap.size)))∧Below w.heap.size w W)
  (fun _ _ W=>False∧Below w.heap.size w W)
  (OwnFrom.and (fun s A B row hs hg hr=>⟨by
    obtain ⟨l,h2,h3⟩:=hs.1
    exact ⟨l,(hg.block _ (Array.getElem?_eq_some_iff.1 h2).1 (fun e=>by have:=(hr _ e.symm).1; omega)).trans h2,h3⟩,hs.2.kept hg (cells_own hs.2 rfl (fun r e=>(hr r e).2))⟩) (ownFrom_below (Nat.le_refl _) (by have:=HB.out.size; omega)))
  (fun c=>OwnFrom.and (fun s A B row hs hg hr=>hs) (ownFrom_below (Nat.le_refl _) (by have:=HB.out.size; omega)))
  ⟨⟨met_nil HM.out,HBX.out⟩,HB.out⟩
  (fun s=>{ tmps:=#[.agg #[.int .i64 x.op,.int .i64 x.k,.int .i64 x.n,.string x.s,.string x.nm,.slice xA xn xc],.pointer (some ⟨w.heap.size,0,none⟩),.slice none 0 0,.int .i64 0,.int .i64 0,.pointer (some ⟨W1.heap.size + 1,0,none⟩),.string s,.agg #[.int .i64 x.op,.int .i64 x.k,.int .i64 x.n,.string x.s,.string x.nm,.slice xA xn xc],.int .i64 0,.int .i64 0,.bool false,undef,.map (some W1.heap.size),.agg #[.int .i64 x.op,.int .i64 x.k,.int .i64 x.n,.string x.s,.string x.nm,.slice xA xn xc],.func (.func 159) #[] #[.pointer (some ⟨W1.heap.size + 1 + 1,0,none⟩)],.string s,undef,undef,undef,undef,undef],defers:=[] }) ?assign ?body ?done ?stop
 case assign =>
  intro l s W K hK
  gi_wp2
  exact hK
 case body =>
  rintro l pre s W ⟨⟨hmet,hbx⟩,hB⟩ hpl
  obtain ⟨o,W',hu,hW',hmet'⟩:=met_put (P:=Tryz.prog) (t:=194) s hmet Tryz.underlying194 Tryz.underlying9
  obtain ⟨lm,hm,-⟩:=hmet
  have cM:=hbx.cell
  have hgr:=grown_set o hm
  have hml:=(Array.getElem?_eq_some_iff.1 hm).1
  have hbl:Below w.heap.size W _:=(Below.refl w.heap.size W).grown hgr hB.size (fun k e=>by cases e; exact hBw.size)
  have hkc:=KeepsCells.grown hgr (fun r e=>by cases e; exact ⟨_,hm,rfl⟩)
  rw [← hW'] at hgr hbl hkc
  have HF:=Lib.hid (And.intro (KeepsFrom.of_grownBy (B:=W4.heap.size) hgr (fun j e=>by cases e; omega)) (And.intro (Kp.mk hbl hkc) (And.intro (And.intro hmet' (hkc.boxed hbx)) (hB.trans hbl))))
  clear hgr hbl hkc hmet' hW' hB hm hml hbx hpl
  gi_wp2_with (first | (gi_at_mapUpdate; refine wpListIn_mapUpdate_at rfl _ _ _ 194 rfl rfl rfl rfl hu ?_) | gi_in)
  have hfo:=HF.out
  rw [z4] at hfo
  exact ⟨hfo.1,hfo.2.1,hfo.2.2⟩
 case done =>
  rintro D ys W hD rfl ⟨⟨⟨l,hm,hk,hnd,hv⟩,hbx⟩,hB⟩ hK
  have hks:∀ p∈l,p.1.size≤10:=fun p hp=>by
   have hr:=(hk p.1).1 (List.mem_map.2 ⟨p,hp,rfl⟩)
   have:=refs_ok HW.out hr
   simpa using this.2.1
  have hll:l.length≤1000000:=by
   have h1:=nodup_le hnd (m:=iX x) (fun s hs=>(hk s).1 hs)
   have h2:=refs_len x
   simp only [List.length_map] at h1
   omega
  obtain ⟨D0,hown,hkeys,hsize⟩:=map_owned (P:=Tryz.prog) (k:=9) (e:=4) hm hnd (fun p hp=>by have:=hks p hp; unfold maxLen; omega) hv (by unfold maxLen; omega) Tryz.underlying9 Tryz.underlying4
  have cM:=hbx.cell
  have hfK:Fence.wide.fn 147:=trivial
  have hfS:Fence.wide.fn 146:=trivial
  gi_wp2_with (first
   | (gi_at_call 147; refine (Tryz.maps_Keys_147 _ _).mono ?_; rintro e w' ⟨rfl,rfl⟩)
   | (gi_at_call 146; refine (Tryz.slices_Sorted_keys_146_147 W1.heap.size l.length D0 _ W hown (by unfold maxLen; omega) (by omega)).mono ?_; rintro e w' ⟨r,ss,rfl,hS,hrow,hnil,hb⟩))
  have hWD:D < W.heap.size:=(Array.getElem?_eq_some_iff.1 hK).1
  have hza:(W.alloc (.cells #[.map (some W1.heap.size)] 194)).heap.size=W.heap.size + 1:=World.size_alloc _ _
  have hK':w'.heap[D]?=some (.deferred (some [])):=(hb.block D (by omega)).trans (((Below.refl _ W).alloc (Nat.le_refl _) _).block D hWD |>.trans hK)
  have hBz:=hB.size
  have hrow2:(w'.putObj D (.deferred none)).ownsRow w.heap.size 9 1 r ss.length ((ss.mergeSort (fun x y=>decide (x≤y))).map Go.Proofs.encStr):=by
   refine ⟨hrow.1,?_⟩
   rcases hrow.2 with q | ⟨g,cap,cur,e,hbg,hg,rest⟩
   ·exact .inl q
   ·refine .inr ⟨g,cap,cur,e,by omega,?_,rest⟩
    rw [(grownBy_putObj' w' D (.deferred none)).block g (Array.getElem?_eq_some_iff.1 hg).1 (fun e=>by injection e; omega)]
    exact hg
  have hmem:∀ s:ByteArray,s.data.toList∈strKeys D0↔s∈iX x:=fun s=>by
   rw [hkeys.mem_iff,← hk s,List.mem_map,List.mem_map]
   constructor
   ·rintro ⟨p,hp,e⟩
    refine ⟨p,hp,?_⟩
    obtain ⟨⟨⟨a⟩⟩,b⟩:=p
    obtain ⟨⟨c⟩⟩:=s
    simp only at e ⊢
    rw [e]
   ·rintro ⟨p,hp,e⟩
    exact ⟨p,hp,by rw [e]⟩
  have hndk:(strKeys D0).Nodup:=by
   rw [hkeys.nodup_iff]
   refine List.pairwise_map.2 ((List.pairwise_map.1 hnd).imp fun {p q} hpq e=>hpq ?_)
   obtain ⟨⟨⟨a⟩⟩,b⟩:=p
   obtain ⟨⟨⟨c⟩⟩,d⟩:=q
   simp only at e ⊢
   rw [e]
  refine ⟨by simp,.inl ⟨_,_,rfl,run_takeDeferred hK',?_⟩⟩
  refine ⟨.tuple #[r,.int .i64 0],?_,r,ss,D0,rfl,hS,hndk,hmem,hrow2,hnil,(hB.trans ((((Below.refl w.heap.size W).alloc (by omega) _)).trans (hb.mono (by omega)))).trans (belowK_b (w:=w) (Nat.le_refl _) _ D _ _ (by omega) hK' rfl rfl)⟩
  simp [results,Tryz.f125,go_sem]
 case stop =>
  rintro D c pre W hD - ⟨hf,-⟩
  exact hf.elim
def dd {α:Type} [DecidableEq α]:List α→List α
 | []=>[]
 | x :: l=>if x∈l then dd l else x :: dd l
theorem mem_dd {α:Type} [DecidableEq α] {x:α}:∀ {l:List α},x∈dd l↔x∈l
 | []=>Iff.rfl
 | y :: l=>by
  unfold dd
  split
  ·rename_i h
   rw [mem_dd (l:=l),List.mem_cons]
   exact ⟨.inr,fun q=>q.elim (fun e=>e ▸ h) id⟩
  ·rw [List.mem_cons,List.mem_cons,mem_dd (l:=l)]
theorem nodup_dd {α:Type} [DecidableEq α]:∀ l:List α,(dd l).Nodup
 | []=>List.nodup_nil
 | y :: l=>by
  unfold dd
  split
  ·exact nodup_dd l
  ·rename_i h
   exact List.nodup_cons.2 ⟨fun q=>h (mem_dd.1 q),nodup_dd l⟩
def namesB (x:Ex):List (List UInt8):=(dd ((iX x).map fun s=>s.data.toList)).mergeSort fun x y=>decide (x≤y)
def sV (x:Ex):List ByteArray:=(namesB x).map fun l=>⟨l.toArray⟩
theorem mem_namesB {x:Ex} {l:List UInt8}:l∈namesB x↔∃ s∈iX x,s.data.toList=l:=by
 unfold namesB
 rw [List.mem_mergeSort,mem_dd,List.mem_map]
theorem mem_namesE {x:Ex} {s:ByteArray}:s∈sV x↔s∈iX x:=by
 unfold sV
 rw [List.mem_map]
 constructor
 ·rintro ⟨l,hl,rfl⟩
  obtain ⟨t,ht,rfl⟩:=mem_namesB.1 hl
  have:(⟨t.data.toList.toArray⟩:ByteArray)=t:=by simp
  rw [this]; exact ht
 ·intro h
  exact ⟨s.data.toList,mem_namesB.2 ⟨s,h,rfl⟩,by simp⟩
theorem namesB_nodup (x:Ex):(namesB x).Nodup:=(List.mergeSort_perm _ _).nodup_iff.2 (nodup_dd _)
theorem namesE_nodup (x:Ex):(sV x).Nodup:=List.pairwise_map.2 ((namesB_nodup x).imp fun {a b} h e=>h (by simpa using congrArg (fun s:ByteArray=>s.data.toList) e))
theorem namesE_len (x:Ex):(sV x).length≤(iX x).length:=nodup_le (namesE_nodup x) fun _ h=>mem_namesE.1 h
theorem sort_names {x:Ex} {ss ks:List (List UInt8)} (h:ss.Perm ks) (hn:ks.Nodup) (hm:∀ s:ByteArray,s.data.toList∈ks↔s∈iX x):ss.mergeSort (fun x y=>decide (x≤y))=namesB x:=by
 refine mergeSort_of_perm (h.trans ((List.perm_ext_iff_of_nodup hn (nodup_dd _)).2 fun l=>?_))
 rw [mem_dd,List.mem_map]
 have:=hm ⟨l.toArray⟩
 simp only at this
 rw [this]
 constructor
 ·intro q; exact ⟨_,q,by simp⟩
 ·rintro ⟨s,hs,rfl⟩
  simpa using hs
theorem enc_flat:∀ l:List (List UInt8),(l.map Go.Proofs.encStr)=(eY (l.map fun l=>(⟨l.toArray⟩:ByteArray))).flatten
 | []=>rfl
 | x :: l=>by
  rw [List.map_cons,enc_flat l]; rfl
theorem nmOf_any (x:Ex) (v:Value) (h:Vw) (hx:IsArgs h x v) (hw:WfE x) (hsz:(szE x).1 < 1000000) (hcx:chkE x=0) :
  C0 Tryz.prog 125 #[.agg #[.int .i64 x.op,.int .i64 x.k,.int .i64 x.n,.string x.s,.string x.nm,v]] h (fun r h'=>∃ A c,r=.tuple #[.slice A (sV x).length c,.int .i64 0]∧RS h' 1 (.slice A (sV x).length c) (eY (sV x))):=by
 intro _ _ _ hbad
 refine (callsIn_wide.1 (of_in x v h.w h.bad hx hw hsz hcx)).mono ?_
 rintro e w' ⟨r,ss,D0,rfl,hS,hnd,hm,hrow,-,hb⟩
 rw [sort_names hS hnd hm,enc_flat] at hrow
 have hl:ss.length=(eY (sV x)).length:=by
  rw [List.length_map,sV,List.length_map,← sort_names hS hnd hm,List.length_mergeSort]
 rw [hl] at hrow
 have hent:Ent.ok h.w.heap.size w' (.row r 9 1 (eY (sV x))):=⟨hrow,fun q hq=>by obtain ⟨s,-,rfl⟩:=List.mem_map.1 hq; rfl⟩
 have hrs:RS ⟨w',h.bad⟩ 1 r (eY (sV x)):=row_rs hent fun b hb' hm=>by have:=(hrow.lt b hb').1; have:=hbad b hm; omega
 obtain ⟨A,c,e,-⟩:=hrs.form
 rw [List.length_map] at e
 subst e
 exact ⟨_,[],rfl,Low.of_below hb,(fun x hx=>by cases hx),rfl,A,c,rfl,hrs⟩
end Go.Proofs.YthplkompdehjlaaGreatDoor
namespace Go.Proofs.YthplkompdehjlaaGreatDoor
open Go.RowKit
def plc (fs:List Fd) (s:ByteArray):Nat:=(vK fs s).toNat
def needE (fs:List Fd) (f:Fd):List Nat:=if f.kind=1 then [] else (sV f.src).map (plc fs)
def vV (fs:List Fd):List (List Nat):=fs.map (needE fs)
def qV (out:List Int):Int→List Nat→Int
 | a,[]=>a
 | a,k :: l=>if out.getD k 0 < 0 then -1 else qV out (max a (out.getD k 0 + 1)) l
def rkStep (need:List (List Nat)) (out:List Int) (i:Nat):List Int:=out.set i (max (out.getD i 0) (qV out 0 (need.getD i [])))
def lX (need:List (List Nat)) (out:List Int):Nat→List Int
 | 0=>out
 | i + 1=>rkStep need (lX need out i) i
def fX (need:List (List Nat)):Nat→List Int
 | 0=>List.replicate need.length (-1)
 | t + 1=>lX need (fX need t) need.length
theorem round_len (need:List (List Nat)) (out:List Int):∀ i,(lX need out i).length=out.length
 | 0=>rfl
 | i + 1=>by rw [lX,rkStep,List.length_set,round_len need out i]
theorem ranks_len (need:List (List Nat)):∀ t,(fX need t).length=need.length
 | 0=>by rw [fX,List.length_replicate]
 | t + 1=>by rw [fX,round_len,ranks_len need t]
def topR (r:List Int) (l:List Nat):Int:=l.foldl (fun a k=>max a (r.getD k 0 + 1)) 0
theorem fold_top (r:List Int):∀ (l:List Nat) (a:Int),0≤a→l.foldl (fun a k=>max a (r.getD k 0 + 1)) a=max a (topR r l)∧0≤topR r l
 | [],a,h=>⟨by unfold topR; simp only [List.foldl_nil]; omega,by unfold topR; simp⟩
 | k :: l,a,h=>by
  have h1:=fold_top r l (max a (r.getD k 0 + 1)) (by omega)
  have h2:=fold_top r l (max 0 (r.getD k 0 + 1)) (by omega)
  have e:topR r (k :: l)=max (max 0 (r.getD k 0 + 1)) (topR r l):=by show List.foldl _ _ _=_; rw [List.foldl_cons]; exact h2.1
  rw [List.foldl_cons,h1.1,e]
  have:=h1.2
  exact ⟨by omega,by omega⟩
theorem top_cons (r:List Int) (k:Nat) (l:List Nat):topR r (k :: l)=max (max 0 (r.getD k 0 + 1)) (topR r l):=(fold_top r l (max 0 (r.getD k 0 + 1)) (by omega)).1
theorem top_nn (r:List Int) (l:List Nat):0≤topR r l:=(fold_top r l 0 (Int.le_refl _)).2
structure Ranked (need:List (List Nat)) (ρ:List Int) (lv:Nat→Nat):Prop where
 len:ρ.length=need.length
 at_:∀ i,i < need.length→ρ.getD i 0=topR ρ (need.getD i [])
 low:∀ i,i < need.length→∀ k∈need.getD i [],k < need.length∧lv k < lv i
 few:∀ i,i < need.length→lv i < need.length
theorem mostA_yes {out ρ:List Int}:∀ (l:List Nat) (a:Int),0≤a→(∀ k∈l,out.getD k 0=ρ.getD k 0∧0≤ρ.getD k 0)→qV out a l=max a (topR ρ l)
 | [],a,h,_=>by unfold qV topR; simp only [List.foldl_nil]; omega
 | k :: l,a,h,hk=>by
  obtain ⟨h1,h2⟩:=hk k (by simp)
  unfold qV
  rw [if_neg (by omega),mostA_yes l _ (by omega) (fun k' hk'=>hk k' (by simp [hk'])),h1,top_cons]
  omega
theorem mostA_no {out:List Int}:∀ (l:List Nat) (a:Int),(∃ k∈l,out.getD k 0 < 0)→qV out a l = -1
 | k :: l,a,⟨k',hk',h⟩=>by
  unfold qV
  split
  ·rfl
  ·rename_i q
   rcases List.mem_cons.1 hk' with rfl | hk'
   ·exact absurd h q
   ·exact mostA_no l _ ⟨k',hk',h⟩
structure Good (need:List (List Nat)) (ρ:List Int) (lv:Nat→Nat) (out:List Int) (t i:Nat):Prop where
 len:out.length=need.length
 or_:∀ j,j < need.length→out.getD j 0=ρ.getD j 0∨out.getD j 0 = -1
 has:∀ j,j < need.length→lv j < t→out.getD j 0=ρ.getD j 0
 now:∀ j,j < i→j < need.length→lv j < t + 1→out.getD j 0=ρ.getD j 0
theorem rank_nn {need:List (List Nat)} {ρ:List Int} {lv:Nat→Nat} (h:Ranked need ρ lv) {i:Nat} (hi:i < need.length):0≤ρ.getD i 0:=by rw [h.at_ i hi]; exact top_nn _ _
theorem getD_set {l:List Int} {i j:Nat} {v:Int} (hi:i < l.length):(l.set i v).getD j 0=if j=i then v else l.getD j 0:=by
 rw [List.getD_eq_getElem?_getD,List.getD_eq_getElem?_getD,List.getElem?_set]
 by_cases e:i=j
 ·subst e; rw [if_pos rfl,if_pos hi,if_pos rfl]; rfl
 ·rw [if_neg e,if_neg fun q=>e q.symm]
theorem step_good {need:List (List Nat)} {ρ:List Int} {lv:Nat→Nat} (h:Ranked need ρ lv) {out:List Int} {t i:Nat} (g:Good need ρ lv out t i) (hi:i < need.length):Good need ρ lv (rkStep need out i) t (i + 1):=by
 have hil:i < out.length:=by rw [g.len]; exact hi
 have hn:=rank_nn h hi
 have hold:=g.or_ i hi
 have key:(max (out.getD i 0) (qV out 0 (need.getD i []))=ρ.getD i 0∨max (out.getD i 0) (qV out 0 (need.getD i []))=out.getD i 0)∧(lv i < t + 1→max (out.getD i 0) (qV out 0 (need.getD i []))=ρ.getD i 0):=by
  by_cases q:∃ k∈need.getD i [],out.getD k 0 < 0
  ·rw [mostA_no _ _ q]
   refine ⟨.inr (by omega),fun hlv=>?_⟩
   obtain ⟨k,hk,hkl⟩:=q
   obtain ⟨k1,k2⟩:=h.low i hi k hk
   have:=g.has k k1 (by omega)
   have:=rank_nn h k1
   omega
  ·have hy:qV out 0 (need.getD i [])=max 0 (topR ρ (need.getD i [])):=mostA_yes _ _ (Int.le_refl _) fun k hk=>by
    obtain ⟨k1,k2⟩:=h.low i hi k hk
    have hp:=rank_nn h k1
    refine ⟨?_,hp⟩
    rcases g.or_ k k1 with e | e
    ·exact e
    ·exact absurd ⟨k,hk,by omega⟩ q
   rw [hy,← h.at_ i hi]
   exact ⟨.inl (by omega),fun _=>by omega⟩
 unfold rkStep
 refine ⟨by rw [List.length_set]; exact g.len,fun j hj=>?_,fun j hj hl=>?_,fun j hj hj2 hl=>?_⟩
 ·rw [getD_set hil]
  split
  ·rename_i e; subst e
   rcases key.1 with q | q
   ·exact .inl q
   ·rw [q]; exact hold
  ·exact g.or_ j hj
 ·rw [getD_set hil]
  split
  ·rename_i e; subst e; exact key.2 (by omega)
  ·exact g.has j hj hl
 ·rw [getD_set hil]
  split
  ·rename_i e; subst e; exact key.2 hl
  ·exact g.now j (by omega) hj2 hl
theorem round_good {need:List (List Nat)} {ρ:List Int} {lv:Nat→Nat} (h:Ranked need ρ lv) {out:List Int} {t:Nat} (g:Good need ρ lv out t 0):∀ i,i≤need.length→Good need ρ lv (lX need out i) t i
 | 0,_=>g
 | i + 1,hi=>step_good h (round_good h g i (by omega)) (by omega)
theorem ranks_good {need:List (List Nat)} {ρ:List Int} {lv:Nat→Nat} (h:Ranked need ρ lv):∀ t,Good need ρ lv (fX need t) t 0
 | 0=>⟨ranks_len need 0,fun j hj=>.inr (by rw [fX,List.getD_eq_getElem?_getD,List.getElem?_replicate,if_pos hj]; rfl),fun j hj hl=>absurd hl (by omega),fun j hj=>absurd hj (by omega)⟩
 | t + 1=>by
  have g:=round_good h (ranks_good h t) need.length (Nat.le_refl _)
  exact ⟨g.len,g.or_,fun j hj hl=>g.now j hj hj hl,fun j hj=>absurd hj (by omega)⟩
theorem ranks_true {need:List (List Nat)} {ρ:List Int} {lv:Nat→Nat} (h:Ranked need ρ lv):fX need need.length=ρ:=by
 have g:=ranks_good h need.length
 refine List.ext_getElem? fun i=>?_
 by_cases hi:i < need.length
 ·have:=g.has i hi (h.few i hi)
  rw [List.getD_eq_getElem?_getD,List.getD_eq_getElem?_getD,List.getElem?_eq_getElem (by rw [g.len]; exact hi),List.getElem?_eq_getElem (by rw [h.len]; exact hi)] at this
  rw [List.getElem?_eq_getElem (by rw [g.len]; exact hi),List.getElem?_eq_getElem (by rw [h.len]; exact hi)]
  exact congrArg some this
 ·rw [List.getElem?_eq_none (by rw [g.len]; omega),List.getElem?_eq_none (by rw [h.len]; omega)]
end Go.Proofs.YthplkompdehjlaaGreatDoor
namespace Go.Proofs.YthplkompdehjlaaGreatDoor
open Go.RowKit
set_option linter.unusedVariables false
abbrev uV (l:List Nat):List (List Value):=l.map fun (k:Nat)=>[Value.int .i64 (k:Int)]
theorem natRows_snoc (l:List Nat) (k:Nat):uV (l++[k])=uV l++[[.int .i64 (k:Int)]]:=by simp [uV]
def NeedAll (h:Vw):List (List Nat)→List Value→Prop
 | [],us=>us=[]
 | x :: l,us=>∃ u r,us=u :: r∧RS h 1 u (uV x)∧NeedAll h l r
theorem NeedAll.sees {h h':Vw} (s:Sees h h'):∀ {l:List (List Nat)} {us:List Value},NeedAll h l us→NeedAll h' l us
 | [],_,k=>k
 | x :: l,_,⟨u,r,e,k1,k2⟩=>⟨u,r,e,k1.sees s,NeedAll.sees s k2⟩
theorem NeedAll.len {h:Vw}:∀ {l:List (List Nat)} {us:List Value},NeedAll h l us→us.length=l.length
 | [],_,k=>by cases k; rfl
 | x :: l,_,⟨u,r,e,k1,k2⟩=>by subst e; simp [NeedAll.len k2]
theorem NeedAll.snoc {h:Vw} {x:List Nat} {u:Value} (k:RS h 1 u (uV x)):∀ {l:List (List Nat)} {us:List Value},NeedAll h l us→NeedAll h (l++[x]) (us++[u])
 | [],_,e=>by cases e; exact ⟨u,[],rfl,k,rfl⟩
 | y :: l,_,⟨u',r,e,k1,k2⟩=>by subst e; exact ⟨u',r++[u],rfl,k1,NeedAll.snoc k k2⟩
theorem NeedAll.get {h:Vw}:∀ {l:List (List Nat)} {us:List Value},NeedAll h l us→∀ {i:Nat} {x:List Nat} {u:Value},l[i]?=some x→us[i]?=some u→RS h 1 u (uV x)
 | [],_,_,i,x,u,hx,_=>by simp at hx
 | y :: l,_,⟨u',r,e,k1,k2⟩,i,x,u,hx,hu=>by
  subst e
  cases i with
  | zero=>simp at hx hu; subst hx hu; exact k1
  | succ i=>exact NeedAll.get k2 (by simpa using hx) (by simpa using hu)
theorem refs_le (x:Ex):(iX x).length≤(szE x).1:=by
 refine ex_ind (p:=fun x=>(iX x).length≤(szE x).1) (fun x ih=>?_) x
 have key:∀ l:List Ex,(∀ y∈l,(iX y).length≤(szE y).1)→(jX l).length≤(szL l).1:=by
  intro l
  induction l with
  | nil=>intro _; simp [jX]
  | cons y l ihl =>
   intro hl
   have h1:=hl y (by simp)
   have h2:=ihl fun z hz=>hl z (by simp [hz])
   rw [jX,szL,List.length_append]
   simp only
   omega
 have:=key x.args ih
 rw [refsE_eq,fY,List.length_append]
 simp only
 split <;> simp <;> omega
theorem one_snoc (us:List Value) (u:Value):(us++[u]).map (fun u=>[u])=us.map (fun u=>[u])++[[u]]:=by simp
theorem findP_any (fs:List Fd) (v:Value) (s:ByteArray) (h:Vw) (hf:IsFds h v fs) (hl:fs.length≤1000000):C0 Tryz.prog 104 #[v,.string s] h (fun r _=>r=.tuple #[.int .i64 ((plc fs s:Nat):Int),.int .i64 (if vK fs s < 0 then 5 else 0)]):=by
 unfold plc
 rcases findF_lt fs s with e | ⟨i,f,e,-,-⟩
 ·rw [e]; exact find_no fs v s h hf hl (by omega)
 ·rw [e,if_neg (by omega)]; exact find_yes fs v s i h hf hl e
set_option maxHeartbeats 2000000 in
theorem needs_any (fs:List Fd) (fv:Value) (h:Vw) (hok:OkFs fs) (hfs:IsFds h fv fs) :
  C0 Tryz.prog 98 #[fv] h (fun r h'=>∃ A c us,r=.slice A fs.length c∧RS h' 1 (.slice A fs.length c) (us.map fun u=>[u])∧NeedAll h' (vV fs) us):=by
 obtain ⟨vs,A,c,rfl,-,-,hr,hsrc,hvl,hsl⟩:=uK hfs
 have few:=hok.few
 have hFi:=fun H s q=>findP_any fs (.slice A fs.length c) s H q (by omega)
 generalize hL:fs.length=len at *
 refine fQ Tryz.func98 (c:=Tryz.f98.body.getD .skip) (N:=51) ?_
 intro hbx hbad Q hQ
 refine oQ 111 1 ?_
 refine go0 19 [] [] ?_
 refine mQ [0,1,0,1,1] [.block 0,.seq [1,1,1]] (fun (k:Nat) X=>∃ (W1:Vw) (v:Value) (us:List Value),X W1 [(0,.slice A len c),(13,.slice A len c),(14,Vi (len:Int)),(15,Vi (k:Int)),(3,v)] [.row v 111 1 (us.map (fun u=>[u]))] []∧Sees h W1∧(k≤len)∧(NeedAll W1 ((vV fs).take k) us)) (fun k=>len - k) (0) (fun X q=>⟨h,(Vz),[],q _ _ _ _ ⟨rfl,by kernel_rfl⟩,Sees.refl _,Nat.zero_le _,rfl⟩) ?_
 rintro k a w ⟨W1,v,us,hJ,S2,hk,hus⟩; refine pQ hJ ?_; clear hJ a w
 refine go0 6 [] [] ?_
 rcases (by omega:k < len∨k=len) with hlt | hke
 ·obtain ⟨f,hfk⟩:∃ f,fs[k]?=some f:=⟨_,List.getElem?_eq_getElem (by omega)⟩
  obtain ⟨u,huk⟩:∃ u,vs[k]?=some u:=⟨_,List.getElem?_eq_getElem (by omega)⟩
  have hslu:=hsl u (List.mem_of_getElem? huk)
  have hrow:(qK fs vs)[k]?=some (fdRow f (.slice (sA u) (sN u) (sC u))):=by rw [hslu]; exact rK hfk huk
  have ha:IsArgs h f.src (.slice (sA u) (sN u) (sC u)):=by rw [hslu]; exact AllArgs.get hsrc (x:=f.src) (by rw [List.getElem?_map,hfk]; rfl) huk
  have hof:=hok.each f (List.mem_of_getElem? hfk)
  have hnk:(vV fs)[k]?=some (needE fs f):=by unfold vV; rw [List.getElem?_map,hfk]; rfl
  have hsn:=jY _ k _ hnk
  have hul:=hus.len
  rw [List.length_take,show (vV fs).length=len from by unfold vV; rw [List.length_map]; exact hL] at hul
  by_cases g:f.kind=1
  ·have hne:needE fs f=[]:=by unfold needE; rw [if_pos g]
   refine wQ (t:=decide ((k:Int) < (len:Int))) (decide_eq_true (by omega)) ?_
   refine go0 6 [] [] ?_
   obtain ⟨b3,o4,rfl,-,c5⟩:=RS.row hr (hrow)
   refine gQ (c5.sees S2) ?_
   refine gov2 26 [.ix b3 o4 len c k,.f 0 0,.own,.b 0 0,.b 0 1,.fix] [(21,.bool (f.kind != 1),.bool false)] ?_ (ho:=(And.intro (by first | omega | (simp; omega)) (trivial))) (hc:=(And.intro (congrArg Value.bool (by simpa using g)) (trivial)))
   intro b6 b7 W8 S9
   refine goa0 9 [.ap 1 0 (us.map (fun u=>[u])) [[Vz]]] [(49,Vi (IntKind.i64.wrap ((k:Int) + 1)),Vi ((k:Int) + 1))] ?_ (ho:=(And.intro (by constructor <;> (simp; omega)) (trivial))) (hc:=(And.intro (jJ (by omega) (by omega)) (trivial)))
   intro v48 W10 S11
   refine kQ [(0,.slice (some ⟨b3,o4,none⟩) len c),(13,.slice (some ⟨b3,o4,none⟩) len c),(14,Vi (len:Int)),(3,.slice (sA v48) (sN v48) (sC v48)),(15,Vi ((k:Int) + 1))] [.row (.slice (sA v48) (sN v48) (sC v48)) 111 1 ((us.map (fun u=>[u]))++[[Vz]])] [] ?_
   exact vQ (k + 1) (fun X q=>⟨W10,.slice (sA v48) (sN v48) (sC v48),us++[Vz],q _ _ _ _ (qX (by rw [one_snoc]; try rfl)),(S2.trans (S9.trans S11)),by omega,by rw [hsn,hne]; exact NeedAll.snoc (RS.nil _ _) (hus.sees (S9.trans S11))⟩) (by omega)
  ·skip
   obtain ⟨w1,w2,w3⟩:=hof.wf g
   have hne:needE fs f=(sV f.src).map (plc fs):=by unfold needE; rw [if_neg g]
   have hnm:=fun H q=>nmOf_any f.src (.slice (sA u) (sN u) (sC u)) H q w1 (by omega) w3
   have hnl:=Nat.le_trans (namesE_len f.src) (refs_le f.src)
   rw [hne] at hsn
   generalize sV f.src=nm at *
   refine wQ (t:=decide ((k:Int) < (len:Int))) (decide_eq_true (by omega)) ?_
   refine go0 6 [] [] ?_
   obtain ⟨b12,o13,rfl,-,c14⟩:=RS.row hr (hrow)
   refine gQ (c14.sees S2) ?_
   refine go1 24 [.ix b12 o13 len c k,.f 0 0,.own,.b 0 0,.b 0 1,.b 0 3] [(21,.bool (f.kind != 1),.bool true)] ?_ (ho:=(And.intro (by first | omega | (simp; omega)) (trivial))) (hc:=(And.intro (congrArg Value.bool (by simpa using g)) (trivial)))
   intro b15
   refine bQ (fun H sH=>hnm _ (ha.sees (S2.trans sH))) ?_; rintro _ W16 S17 ⟨An,cn,rfl,hnr⟩
   refine go0 15 [] [] ?_
   refine oQ 3 1 ?_
   refine mQ [0,1,1,0,1,0,1,1,0,0,1,1,0,0,1,0,1,1] [.block 2,.seq [1,1,1,0,0,1,1,0,0,1,0,1,1],.block 1,.seq [1,1,1,0,0,1,0,1,1]] (fun (j:Nat) X=>∃ (W18:Vw) (mv:Value),X W18 [(0,.slice (some ⟨b12,o13,none⟩) len c),(13,.slice (some ⟨b12,o13,none⟩) len c),(14,Vi (len:Int)),(15,Vi (k:Int)),(3,v),(28,.slice An nm.length cn),(29,Vi (nm.length:Int)),(30,Vi (j:Int)),(6,mv)] [.row mv 3 1 (uV ((nm.map (plc fs)).take j)),.box b15 [.string f.name,Vi f.kind,Vi f.ty,Vi f.src.op,Vi f.src.k,Vi f.src.n,.string f.src.s,.string f.src.nm,.slice (sA u) (sN u) (sC u)],.row v 111 1 (us.map (fun u=>[u]))] [(b12,o13 + k * 9,[.string f.name,Vi f.kind,Vi f.ty,Vi f.src.op,Vi f.src.k,Vi f.src.n,.string f.src.s,.string f.src.nm,.slice (sA u) (sN u) (sC u)])]∧Sees W16 W18∧(j≤nm.length)) (fun j=>nm.length - j) (0) (fun X q=>⟨W16,(Vz),q _ _ _ _ ⟨rfl,by kernel_rfl⟩,Sees.refl _,Nat.zero_le _⟩) ?_
   rintro j a w ⟨W18,mv,hJ,S19,hj⟩; refine pQ hJ ?_; clear hJ a w
   refine go0 6 [] [] ?_
   rcases (by omega:j < nm.length∨j=nm.length) with hjl | hje
   ·obtain ⟨s,hs⟩:∃ s,nm[j]?=some s:=⟨_,List.getElem?_eq_getElem hjl⟩
    have hsr:(eY nm)[j]?=some [.string s]:=by show (nm.map _)[j]?=_; rw [List.getElem?_map,hs]; rfl
    have hjk:(nm.map (plc fs))[j]?=some (plc fs s):=by rw [List.getElem?_map,hs]; rfl
    have hjn:=jY _ j _ hjk
    refine wQ (t:=decide ((j:Int) < (nm.length:Int))) (decide_eq_true (by omega)) ?_
    refine go0 6 [] [] ?_
    obtain ⟨b20,o21,rfl,-,c22⟩:=RS.row hnr (hsr)
    refine gQ (c22.sees S19) ?_
    refine aV 21 [.ix b20 o21 nm.length cn j,.f 0 0,.cl 104 #[.slice (some ⟨b12,o13,none⟩) len c,.string s] (.tuple #[Vi ((plc fs s:Nat):Int),Vi (if vK fs s < 0 then 5 else 0)]),.fix] [] ?_ (ho:=(And.intro (by first | omega | (simp; omega)) (And.intro (fun H sH=>hFi _ s (hfs.sees (S2.trans (S17.trans (S19.trans sH))))) (trivial))))
    intro b23 W24 S25
    refine goa0 9 [.ap 0 0 (uV ((nm.map (plc fs)).take j)) [[Vi ((plc fs s:Nat):Int)]]] [(44,Vi (IntKind.i64.wrap ((j:Int) + 1)),Vi ((j:Int) + 1))] ?_ (ho:=(And.intro (by constructor <;> (simp; omega)) (trivial))) (hc:=(And.intro (jJ (by omega) (by omega)) (trivial)))
    intro v43 W26 S27
    refine kQ [(0,.slice (some ⟨b12,o13,none⟩) len c),(13,.slice (some ⟨b12,o13,none⟩) len c),(14,Vi (len:Int)),(15,Vi (k:Int)),(3,v),(28,.slice (some ⟨b20,o21,none⟩) nm.length cn),(29,Vi (nm.length:Int)),(6,.slice (sA v43) (sN v43) (sC v43)),(30,Vi ((j:Int) + 1))] [.row (.slice (sA v43) (sN v43) (sC v43)) 3 1 ((uV ((nm.map (plc fs)).take j))++[[Vi ((plc fs s:Nat):Int)]]),.box b15 [.string f.name,Vi f.kind,Vi f.ty,Vi f.src.op,Vi f.src.k,Vi f.src.n,.string f.src.s,.string f.src.nm,.slice (sA u) (sN u) (sC u)],.row v 111 1 (us.map (fun u=>[u]))] [(b12,o13 + k * 9,[.string f.name,Vi f.kind,Vi f.ty,Vi f.src.op,Vi f.src.k,Vi f.src.n,.string f.src.s,.string f.src.nm,.slice (sA u) (sN u) (sC u)])] ?_
    exact vQ (j + 1) (fun X q=>⟨W26,.slice (sA v43) (sN v43) (sC v43),q _ _ _ _ (qX (by rw [hjn,natRows_snoc])),(S19.trans (S25.trans S27)),by omega⟩) (by omega)
   ·skip
    have hta:(nm.map (plc fs)).take j=nm.map (plc fs):=by rw [hje,List.take_of_length_le (by rw [List.length_map]; omega)]
    rw [hta]
    have hml:(uV (nm.map (plc fs))).length=nm.length:=by simp
    refine jQ 0 (v:=mv) (e:=3) (kk:=1) (l:=uV (nm.map (plc fs))) ?_; intro Am cm hE_mv hc_mv hm_mv
    rw [show (uV (nm.map (plc fs))).length=nm.length from by first | omega | (simp; done) | (simp; omega)] at hE_mv hc_mv
    rw [hE_mv]
    refine g_freeze 0 (v:=.slice Am nm.length cm) (e:=3) (kk:=1) (l:=uV (nm.map (plc fs))) ?_; intro W28 S29 fm
    refine iQ (t:=decide ((j:Int) < (nm.length:Int))) (decide_eq_false (by omega)) ?_
    refine go0 2 [] [] ?_
    refine lQ ?_
    refine aV 6 [.fix] [] ?_
    intro b30 W31 S32
    refine goa0 9 [.ap 1 0 (us.map (fun u=>[u])) [[.slice Am nm.length cm]]] [(49,Vi (IntKind.i64.wrap ((k:Int) + 1)),Vi ((k:Int) + 1))] ?_ (ho:=(And.intro (by constructor <;> (simp; omega)) (trivial))) (hc:=(And.intro (jJ (by omega) (by omega)) (trivial)))
    intro v48 W33 S34
    refine kQ [(0,.slice (some ⟨b12,o13,none⟩) len c),(13,.slice (some ⟨b12,o13,none⟩) len c),(14,Vi (len:Int)),(3,.slice (sA v48) (sN v48) (sC v48)),(15,Vi ((k:Int) + 1))] [.row (.slice (sA v48) (sN v48) (sC v48)) 111 1 ((us.map (fun u=>[u]))++[[.slice Am nm.length cm]])] [] ?_
    exact vQ (k + 1) (fun X q=>⟨W33,.slice (sA v48) (sN v48) (sC v48),us++[.slice Am nm.length cm],q _ _ _ _ (qX (by rw [one_snoc]; try rfl)),(S2.trans (S17.trans (S19.trans (S29.trans (S32.trans S34))))),by omega,by rw [hsn]; exact NeedAll.snoc (fm.sees (S32.trans S34)) (hus.sees (S17.trans (S19.trans (S29.trans (S32.trans S34)))))⟩) (by omega)
 ·skip
  have hta:(vV fs).take k=vV fs:=by rw [hke,List.take_of_length_le (by unfold vV; rw [List.length_map]; omega)]
  rw [hta] at hus
  have hul:=hus.len
  have hrl:(us.map fun u=>[u]).length=len:=by rw [List.length_map,hul]; unfold vV; rw [List.length_map]; exact hL
  refine jQ 0 (v:=v) (e:=111) (kk:=1) (l:=us.map (fun u=>[u])) ?_; intro Ar cr hE_v hc_v hm_v
  rw [show (us.map (fun u=>[u])).length=len from by first | omega | (simp; done) | (simp; omega)] at hE_v hc_v
  rw [hE_v]
  refine iQ (t:=decide ((k:Int) < (len:Int))) (decide_eq_false (by omega)) ?_
  refine go0 2 [] [] ?_
  refine lQ ?_
  refine go0 9 [] [] ?_
  refine kQ [(2,.slice Ar len cr)] [.row (.slice Ar len cr) 111 1 (us.map (fun u=>[u]))] [] ?_
  refine hQ.toJ [.slice Ar len cr] [] (fun a w hJ=>?_)
  have fr:=hJ.j.rowOut0 (v:=.slice Ar len cr) (e:=111) (k:=1) (l:=us.map (fun u=>[u])) 0 (by kernel_rfl) rfl
  exact ⟨Ar,cr,us,rfl,fr,(hus.sees hJ.j.out)⟩
abbrev kX (l:List Int):List (List Value):=l.map fun (k:Int)=>[Value.int .i64 k]
theorem rk_set (l:List Int) (i:Nat) (v:Int):(kX l).set i [.int .i64 v]=kX (l.set i v):=List.map_set.symm
theorem rk_get {l:List Int} {i:Nat} (h:i < l.length):(kX l)[i]?=some [.int .i64 (l.getD i 0)]:=by
 show (l.map _)[i]?=_
 rw [List.getElem?_map,List.getElem?_eq_getElem h,List.getD_eq_getElem?_getD,List.getElem?_eq_getElem h]; rfl
theorem mostA_cons (out:List Int) (a:Int) (k:Nat) (l:List Nat):qV out a (k :: l)=if out.getD k 0 < 0 then -1 else qV out (max a (out.getD k 0 + 1)) l:=rfl
theorem mostA_bd {out:List Int} {B:Int} (hB:∀ j,out.getD j 0≤B):∀ (l:List Nat) (a:Int),0≤a→qV out a l≤max a (B + 1) ∧ -1≤qV out a l
 | [],a,h=>by unfold qV; omega
 | k :: l,a,h=>by
  unfold qV
  split
  ·omega
  ·have h1:=mostA_bd hB l (max a (out.getD k 0 + 1)) (by omega)
   have:=hB k
   omega
theorem step_bd {need:List (List Nat)} {out:List Int} {B:Int} (h0:0≤B) (hB:∀ j,-1≤out.getD j 0∧out.getD j 0≤B) (i:Nat) (j:Nat) : -1≤(rkStep need out i).getD j 0∧(rkStep need out i).getD j 0≤B + 1:=by
 have hj:=hB j
 unfold rkStep
 by_cases hi:i < out.length
 ·rw [getD_set hi]
  split
  ·have h1:=mostA_bd (fun j=>(hB j).2) (need.getD i []) 0 (Int.le_refl _)
   have:=hB i
   omega
  ·omega
 ·rw [List.set_eq_of_length_le (by omega)]; omega
theorem round_bd {need:List (List Nat)} {out:List Int} {B:Int} (h0:0≤B) (hB:∀ j,-1≤out.getD j 0∧out.getD j 0≤B):∀ (i:Nat) (j:Nat),-1≤(lX need out i).getD j 0∧(lX need out i).getD j 0≤B + i
 | 0,j=>by have:=hB j; rw [lX]; omega
 | i + 1,j=>by
  have:=step_bd (need:=need) (out:=lX need out i) (B:=B + i) (by omega) (round_bd (need:=need) (out:=out) h0 hB i) i j
  rw [lX]
  omega
theorem ranks_bd (need:List (List Nat)):∀ (t:Nat) (j:Nat),-1≤(fX need t).getD j 0∧(fX need t).getD j 0≤((t * need.length:Nat):Int)
 | 0,j=>by
  rw [fX,List.getD_eq_getElem?_getD,List.getElem?_replicate]
  split <;> simp
 | t + 1,j=>by
  have:=round_bd (need:=need) (B:=((t * need.length:Nat):Int)) (by omega) (ranks_bd need t) need.length j
  rw [fX,Nat.succ_mul]
  omega
set_option maxHeartbeats 2000000 in
theorem ranks_any (need:List (List Nat)) (A:Option Addr) (cap:Nat) (us:List Value) (h:Vw) (hr:RS h 1 (.slice A need.length cap) (us.map fun u=>[u])) (hn:NeedAll h need us) (hlen:need.length≤14) (hb:∀ l∈need,l.length≤1000∧∀ k∈l,k < need.length) :
  C0 Tryz.prog 99 #[.slice A need.length cap] h (fun r h'=>∃ b,r=.slice (some ⟨b,0,none⟩) need.length need.length∧RS h' 1 r (kX (fX need need.length))):=by
 have hul:=hn.len
 have hrl:=ranks_len need
 have hol:=fun t i=>(round_len need (fX need t) i).trans (ranks_len need t)
 have hbd:∀ t,t≤14→∀ i,i≤14→∀ j,-1≤(lX need (fX need t) i).getD j 0∧(lX need (fX need t) i).getD j 0≤1000:=fun t ht i hi j=>by
  have h1:=round_bd (need:=need) (B:=((t * need.length:Nat):Int)) (by omega) (ranks_bd need t) i j
  have h2:t * need.length≤14 * 14:=Nat.mul_le_mul ht hlen
  omega
 have hst:∀ t i,lX need (fX need t) (i + 1)=(lX need (fX need t) i).set i (max ((lX need (fX need t) i).getD i 0) (qV (lX need (fX need t) i) 0 (need.getD i []))):=fun t i=>rfl
 have hrd:∀ t,lX need (fX need t) need.length=fX need (t + 1):=fun t=>rfl
 have h00:fX need 0=List.replicate need.length (-1):=rfl
 have hr0:∀ t,lX need (fX need t) 0=fX need t:=fun t=>rfl
 have hz:List.replicate need.length [Value.int .i64 0]=kX (List.replicate need.length 0):=by show _=List.map _ _; rw [List.map_replicate]
 generalize hL:need.length=n at *
 refine fQ Tryz.func99 (c:=Tryz.f99.body.getD .skip) (N:=64) ?_
 intro hbx hbad Q hQ
 refine go0 9 [] [] ?_
 refine g_make1 (t:=111) (e:=3) (z:=Vi 0) (x:=(.tmp 11)) (by_:=8) (m:=n) (by kernel_rfl) Tryz.underlying111 (by kernel_rfl) rfl (by omega) (by omega) (by simp only [maxLen]; omega) ?_; intro bo
 refine go0 12 [] [] ?_
 rw [hz]
 refine mQ [0,1,0,1,1] [.block 0,.seq [1,1,1]] (fun (i:Nat) X=>∃ (W2:Vw) (ro:List Int),X W2 [(0,.slice A n cap),(3,Vs bo n n),(14,Vi (n:Int)),(15,Vi (i:Int))] [.row (Vs bo n n) 3 1 (kX ro)] []∧Sees h W2∧(i≤n)∧(ro=List.replicate i (-1)++List.replicate (n - i) 0)) (fun i=>n - i) (0) (fun X q=>⟨h,List.replicate n 0,q _ _ _ _ ⟨rfl,by kernel_rfl⟩,Sees.refl _,Nat.zero_le _,by simp⟩) ?_
 rintro i a w ⟨W2,ro,hJ,S3,hi,hro⟩; refine pQ hJ ?_; clear hJ a w
 refine go0 6 [] [] ?_
 rcases (by omega:i < n∨i=n) with hlt | hke
 ·have hol2:ro.length=n:=by rw [hro,List.length_append,List.length_replicate,List.length_replicate]; omega
  have hrow:=rk_get (l:=ro) (i:=i) (by omega)
  have hnx:ro.set i (-1)=List.replicate (i + 1) (-1)++List.replicate (n - (i + 1)) 0:=by
   rw [hro,List.set_append_right _ _ (by simp),List.length_replicate,Nat.sub_self,show n - i=(n - (i + 1)) + 1 by omega,List.replicate_succ,List.set_cons_zero,List.replicate_succ',List.append_assoc]; rfl
  refine wQ (t:=decide ((i:Int) < (n:Int))) (decide_eq_true (by omega)) ?_
  refine go0 14 [.ix bo 0 n n i] [] ?_ (ho:=(And.intro (by first | omega | (simp; omega)) (trivial)))
  refine g_rowset 0 i 0 (g:=bo) (m:=n) (cap:=n) (kk:=1) (e:=3) (l:=kX ro) (r:=[Vi (ro.getD i 0)]) (r':=[Vi (-1)]) (t:=3) (x:=(.tmp 20)) (y:=(.const (Vi (-1)))) (v:=Vi (-1)) (hrow) ?_
  refine go0 7 [] [(21,Vi (IntKind.i64.wrap ((i:Int) + 1)),Vi ((i:Int) + 1))] ?_ (hc:=(And.intro (jJ (by omega) (by omega)) (trivial)))
  refine kQ [(0,.slice A n cap),(3,Vs bo n n),(14,Vi (n:Int)),(15,Vi ((i:Int) + 1))] [.row (Vs bo n n) 3 1 ((kX ro).set i [Vi (-1)])] [] ?_
  exact vQ (i + 1) (fun X q=>⟨W2,ro.set i (-1),q _ _ _ _ (qX (by rw [rk_set])),S3,by omega,hnx⟩) (by omega)
 ·skip
  have hro2:ro=fX need 0:=by rw [hro,h00,hke,Nat.sub_self]; simp
  rw [hro2]
  refine iQ (t:=decide ((i:Int) < (n:Int))) (decide_eq_false (by omega)) ?_
  refine go0 2 [] [] ?_
  refine lQ ?_
  refine go0 11 [] [] ?_
  refine mQ [0,1,0,1,1,1] [.block 2,.seq [1,1,1,1]] (fun (t:Nat) X=>∃ (W4:Vw) ,X W4 [(0,.slice A n cap),(3,Vs bo n n),(23,Vi (n:Int)),(24,Vi (t:Int))] [.row (Vs bo n n) 3 1 (kX (fX need t))] []∧Sees W2 W4∧(t≤n)) (fun t=>n - t) (0) (fun X q=>⟨W2,q _ _ _ _ ⟨rfl,by kernel_rfl⟩,Sees.refl _,Nat.zero_le _⟩) ?_
  rintro t a w ⟨W4,hJ,S5,ht⟩; refine pQ hJ ?_; clear hJ a w
  refine go0 6 [] [] ?_
  rcases (by omega:t < n∨t=n) with htl | hte
  ·refine wQ (t:=decide ((t:Int) < (n:Int))) (decide_eq_true (by omega)) ?_
   refine go0 12 [] [] ?_
   refine mQ [0,1,0,0,1,1,0,0,1,0,1,1,1] [.block 4,.block 3,.seq [1,1,1,0,0,1,0,1,1,1]] (fun (i2:Nat) X=>∃ (W6:Vw) ,X W6 [(0,.slice A n cap),(3,Vs bo n n),(23,Vi (n:Int)),(24,Vi (t:Int)),(26,.slice A n cap),(27,Vi (n:Int)),(28,Vi (i2:Int))] [.row (Vs bo n n) 3 1 (kX (lX need (fX need t) i2))] []∧Sees W4 W6∧(i2≤n)) (fun i2=>n - i2) (0) (fun X q=>⟨W4,q _ _ _ _ ⟨rfl,by kernel_rfl⟩,Sees.refl _,Nat.zero_le _⟩) ?_
   rintro i2 a w ⟨W6,hJ,S7,hi2⟩; refine pQ hJ ?_; clear hJ a w
   refine go0 6 [] [] ?_
   rcases (by omega:i2 < n∨i2=n) with hil | hie
   ·have ho:=hol t i2
    have hb2:=hbd t (by omega) i2 (by omega)
    have hsx:=hst t i2
    generalize lX need (fX need t) i2=o at *
    obtain ⟨l,hl⟩:∃ l,need[i2]?=some l:=⟨_,List.getElem?_eq_getElem (by omega)⟩
    obtain ⟨u,hu⟩:∃ u,us[i2]?=some u:=⟨_,List.getElem?_eq_getElem (by omega)⟩
    have hlg:need.getD i2 []=l:=by rw [List.getD_eq_getElem?_getD,hl]; rfl
    rw [hlg] at hsx
    obtain ⟨hll,hlk⟩:=hb l (List.mem_of_getElem? hl)
    have hlr:=NeedAll.get hn hl hu
    obtain ⟨Au,cu,rfl,-,-,-⟩:=hlr.form
    have hlm:(uV l).length=l.length:=by simp
    rw [hlm] at hlr hu
    have hrow:(us.map fun u=>[u])[i2]?=some [.slice Au l.length cu]:=by rw [List.getElem?_map,hu]; rfl
    have hrowi:=rk_get (l:=o) (i:=i2) (by omega)
    refine wQ (t:=decide ((i2:Int) < (n:Int))) (decide_eq_true (by omega)) ?_
    refine go0 7 [] [] ?_
    obtain ⟨b8,o9,rfl,-,c10⟩:=RS.row hr (hrow)
    refine gQ (c10.sees (S3.trans (S5.trans S7))) ?_
    refine go0 20 [.ix b8 o9 n cap i2,.f 0 0] [] ?_ (ho:=(And.intro (by first | omega | (simp; omega)) (trivial)))
    refine mQ [0,1,0,1,1,0,0,1,1,0,0,1,0,0,1,1,0,0,1,0,1,1,1] [.block 6,.seq [1,1,1,0,0,1,1,0,0,1,0,0,1,1,0,0,1,0,1,1,1],.block 5,.seq [1,1,1,0,0,1,0,0,1,1,0,0,1,0,1,1,1]] (fun (j:Nat) X=>∃ (W11:Vw) (a0:Int),X W11 [(0,.slice (some ⟨b8,o9,none⟩) n cap),(3,Vs bo n n),(23,Vi (n:Int)),(24,Vi (t:Int)),(26,.slice (some ⟨b8,o9,none⟩) n cap),(27,Vi (n:Int)),(28,Vi (i2:Int)),(5,Vi (i2:Int)),(33,.slice Au l.length cu),(34,Vi (l.length:Int)),(35,Vi (j:Int)),(7,Vi a0)] [.row (Vs bo n n) 3 1 (kX o)] [(b8,o9 + i2 * 1,[.slice Au l.length cu])]∧Sees W6 W11∧(j≤l.length)∧(0≤a0)∧(a0≤2000)∧(qV o 0 l=qV o a0 (l.drop j))) (fun j=>l.length - j) (0) (fun X q=>⟨W6,0,q _ _ _ _ ⟨rfl,by kernel_rfl⟩,Sees.refl _,Nat.zero_le _,Int.le_refl _,by omega,rfl⟩) ?_
    rintro j a w ⟨W11,a0,hJ,S12,hj,ha0,ha1,hma⟩; refine pQ hJ ?_; clear hJ a w
    refine go0 6 [] [] ?_
    rcases (by omega:j < l.length∨j=l.length) with hjl | hje
    ·obtain ⟨k,hk⟩:∃ k,l[j]?=some k:=⟨_,List.getElem?_eq_getElem (by omega)⟩
     have hkn:=hlk k (List.mem_of_getElem? hk)
     have hrj:(uV l)[j]?=some [.int .i64 (k:Int)]:=by show (l.map _)[j]?=_; rw [List.getElem?_map,hk]; rfl
     have hrk:=rk_get (l:=o) (i:=k) (by omega)
     have hd:l.drop j=k :: l.drop (j + 1):=by
      have hx:=List.getElem?_eq_some_iff.1 hk
      obtain ⟨h1,h2⟩:=hx
      rw [← h2]; exact List.drop_eq_getElem_cons h1
     have hbk:=hb2 k
     have hbi:=hb2 i2
     rw [hd,mostA_cons] at hma
     by_cases q:o.getD k 0 < 0
     ·rw [if_pos q] at hma
      rw [hma] at hsx
      refine wQ (t:=decide ((j:Int) < (l.length:Int))) (decide_eq_true (by omega)) ?_
      refine go0 6 [] [] ?_
      obtain ⟨b13,o14,rfl,-,c15⟩:=RS.row hlr (hrj)
      refine gQ (c15.sees (S3.trans (S5.trans (S7.trans S12)))) ?_
      refine go0 11 [.ix b13 o14 l.length cu j,.f 0 0,.ix bo 0 n n k] [] ?_ (ho:=(And.intro (by first | omega | (simp; omega)) (And.intro (by first | omega | (simp; omega)) (trivial))))
      refine g_rowget 0 k 0 (g:=bo) (m:=n) (cap:=n) (kk:=1) (e:=3) (l:=kX o) (r:=[Vi (o.getD k 0)]) (t:=3) (x:=(.tmp 41)) (v:=Vi (o.getD k 0)) (hrk) ?_
      refine go0 3 [] [] ?_
      refine wQ (t:=decide ((o.getD k 0) < 0)) (decide_eq_true q) ?_
      refine go0 9 [] [] ?_
      refine lQ ?_
      refine go0 8 [.ix bo 0 n n i2] [] ?_ (ho:=(And.intro (by first | omega | (simp; omega)) (trivial)))
      refine g_rowget 0 i2 0 (g:=bo) (m:=n) (cap:=n) (kk:=1) (e:=3) (l:=kX o) (r:=[Vi (o.getD i2 0)]) (t:=3) (x:=(.tmp 56)) (v:=Vi (o.getD i2 0)) (hrowi) ?_
      refine go0 3 [.ix bo 0 n n i2] [(59,Vi (if (-1:Int) > (o.getD i2 0) then (-1:Int) else (o.getD i2 0)),Vi (max (o.getD i2 0) (-1)))] ?_ (ho:=(And.intro (by first | omega | (simp; omega)) (trivial))) (hc:=(And.intro (congrArg (Value.int .i64) (by split <;> omega)) (trivial)))
      refine g_rowset 0 i2 0 (g:=bo) (m:=n) (cap:=n) (kk:=1) (e:=3) (l:=kX o) (r:=[Vi (o.getD i2 0)]) (r':=[Vi (max (o.getD i2 0) (-1))]) (t:=3) (x:=(.tmp 60)) (y:=(.tmp 59)) (v:=Vi (max (o.getD i2 0) (-1))) (hrowi) ?_
      refine go0 7 [] [(61,Vi (IntKind.i64.wrap ((i2:Int) + 1)),Vi ((i2:Int) + 1))] ?_ (hc:=(And.intro (jJ (by omega) (by omega)) (trivial)))
      refine kQ [(0,.slice (some ⟨b8,o9,none⟩) n cap),(3,Vs bo n n),(23,Vi (n:Int)),(24,Vi (t:Int)),(26,.slice (some ⟨b8,o9,none⟩) n cap),(27,Vi (n:Int)),(28,Vi ((i2:Int) + 1))] [.row (Vs bo n n) 3 1 ((kX o).set i2 [Vi (max (o.getD i2 0) (-1))])] [] ?_
      exact vQ (i2 + 1) (fun X q=>⟨W11,q _ _ _ _ (qX (by rw [hsx,rk_set])),(S7.trans S12),by omega⟩) (by omega)
     ·skip
      rw [if_neg q] at hma
      refine wQ (t:=decide ((j:Int) < (l.length:Int))) (decide_eq_true (by omega)) ?_
      refine go0 6 [] [] ?_
      obtain ⟨b16,o17,rfl,-,c18⟩:=RS.row hlr (hrj)
      refine gQ (c18.sees (S3.trans (S5.trans (S7.trans S12)))) ?_
      refine go0 11 [.ix b16 o17 l.length cu j,.f 0 0,.ix bo 0 n n k] [] ?_ (ho:=(And.intro (by first | omega | (simp; omega)) (And.intro (by first | omega | (simp; omega)) (trivial))))
      refine g_rowget 0 k 0 (g:=bo) (m:=n) (cap:=n) (kk:=1) (e:=3) (l:=kX o) (r:=[Vi (o.getD k 0)]) (t:=3) (x:=(.tmp 41)) (v:=Vi (o.getD k 0)) (hrk) ?_
      refine go0 3 [] [] ?_
      refine iQ (t:=decide ((o.getD k 0) < 0)) (decide_eq_false q) ?_
      refine go0 7 [.ix bo 0 n n k] [] ?_ (ho:=(And.intro (by first | omega | (simp; omega)) (trivial)))
      refine g_rowget 0 k 0 (g:=bo) (m:=n) (cap:=n) (kk:=1) (e:=3) (l:=kX o) (r:=[Vi (o.getD k 0)]) (t:=3) (x:=(.tmp 47)) (v:=Vi (o.getD k 0)) (hrk) ?_
      refine go0 10 [] [(49,Vi (IntKind.i64.wrap (o.getD k 0 + 1)),Vi (o.getD k 0 + 1)),(50,Vi (if (o.getD k 0 + 1) > a0 then (o.getD k 0 + 1) else a0),Vi (max a0 (o.getD k 0 + 1))),(51,Vi (IntKind.i64.wrap ((j:Int) + 1)),Vi ((j:Int) + 1))] ?_ (hc:=(And.intro (jJ (by omega) (by omega)) (And.intro (congrArg (Value.int .i64) (by split <;> omega)) (And.intro (jJ (by omega) (by omega)) (trivial)))))
      exact vQ (j + 1) (fun X q=>⟨W11,max a0 (o.getD k 0 + 1),q _ _ _ _ ⟨rfl,by kernel_rfl⟩,S12,by omega,by omega,by omega,hma⟩) (by omega)
    ·skip
     have hma2:qV o 0 l=a0:=by rw [hma,hje,List.drop_length]; rfl
     rw [hma2] at hsx
     have hbi:=hb2 i2
     refine iQ (t:=decide ((j:Int) < (l.length:Int))) (decide_eq_false (by omega)) ?_
     refine go0 2 [] [] ?_
     refine lQ ?_
     refine go0 8 [.ix bo 0 n n i2] [] ?_ (ho:=(And.intro (by first | omega | (simp; omega)) (trivial)))
     refine g_rowget 0 i2 0 (g:=bo) (m:=n) (cap:=n) (kk:=1) (e:=3) (l:=kX o) (r:=[Vi (o.getD i2 0)]) (t:=3) (x:=(.tmp 56)) (v:=Vi (o.getD i2 0)) (hrowi) ?_
     refine go0 3 [.ix bo 0 n n i2] [(59,Vi (if a0 > (o.getD i2 0) then a0 else (o.getD i2 0)),Vi (max (o.getD i2 0) a0))] ?_ (ho:=(And.intro (by first | omega | (simp; omega)) (trivial))) (hc:=(And.intro (congrArg (Value.int .i64) (by split <;> omega)) (trivial)))
     refine g_rowset 0 i2 0 (g:=bo) (m:=n) (cap:=n) (kk:=1) (e:=3) (l:=kX o) (r:=[Vi (o.getD i2 0)]) (r':=[Vi (max (o.getD i2 0) a0)]) (t:=3) (x:=(.tmp 60)) (y:=(.tmp 59)) (v:=Vi (max (o.getD i2 0) a0)) (hrowi) ?_
     refine go0 7 [] [(61,Vi (IntKind.i64.wrap ((i2:Int) + 1)),Vi ((i2:Int) + 1))] ?_ (hc:=(And.intro (jJ (by omega) (by omega)) (trivial)))
     refine kQ [(0,.slice (some ⟨b8,o9,none⟩) n cap),(3,Vs bo n n),(23,Vi (n:Int)),(24,Vi (t:Int)),(26,.slice (some ⟨b8,o9,none⟩) n cap),(27,Vi (n:Int)),(28,Vi ((i2:Int) + 1))] [.row (Vs bo n n) 3 1 ((kX o).set i2 [Vi (max (o.getD i2 0) a0)])] [] ?_
     exact vQ (i2 + 1) (fun X q=>⟨W11,q _ _ _ _ (qX (by rw [hsx,rk_set])),(S7.trans S12),by omega⟩) (by omega)
   ·skip
    refine iQ (t:=decide ((i2:Int) < (n:Int))) (decide_eq_false (by omega)) ?_
    refine go0 2 [] [] ?_
    refine lQ ?_
    refine go0 7 [] [(62,Vi (IntKind.i64.wrap ((t:Int) + 1)),Vi ((t:Int) + 1))] ?_ (hc:=(And.intro (jJ (by omega) (by omega)) (trivial)))
    refine kQ [(0,.slice A n cap),(3,Vs bo n n),(23,Vi (n:Int)),(24,Vi ((t:Int) + 1))] [.row (Vs bo n n) 3 1 (kX (lX need (fX need t) i2))] [] ?_
    exact vQ (t + 1) (fun X q=>⟨W6,q _ _ _ _ (qX (by rw [hie,hrd])),(S5.trans S7),by omega⟩) (by omega)
  ·skip
   refine iQ (t:=decide ((t:Int) < (n:Int))) (decide_eq_false (by omega)) ?_
   refine go0 2 [] [] ?_
   refine lQ ?_
   refine go0 9 [] [] ?_
   refine kQ [(2,Vs bo n n)] [.row (Vs bo n n) 3 1 (kX (fX need t))] [] ?_
   refine hQ.toJ [Vs bo n n] [] (fun a w hJ=>?_)
   have fr:=hJ.j.rowOut0 (v:=Vs bo n n) (e:=3) (k:=1) (l:=kX (fX need t)) 0 (by kernel_rfl) rfl
   exact ⟨bo,rfl,by rw [hte] at fr; exact fr⟩
end Go.Proofs.YthplkompdehjlaaGreatDoor
namespace Go.Proofs.YthplkompdehjlaaGreatDoor
open Go.RowKit
set_option linter.unusedVariables false
theorem pgRows_take:∀ (k:Nat) {l:List Pg} {us vs:List Value},us.length=l.length→vs.length=l.length→(oW l us vs).take k=oW (l.take k) (us.take k) (vs.take k)
 | 0,l,us,vs,_,_=>by simp [oW]
 | k + 1,[],[],[],_,_=>rfl
 | k + 1,p :: l,u :: us,v :: vs,h1,h2=>by
  show (pgRow p u v :: oW l us vs).take (k + 1)=pgRow p u v :: oW (l.take k) (us.take k) (vs.take k)
  rw [List.take_succ_cons,pgRows_take k (by simpa using h1) (by simpa using h2)]
theorem AllStr.take {h:Vw}:∀ (k:Nat) {l:List (List ByteArray)} {us:List Value},AllStr h l us→AllStr h (l.take k) (us.take k)
 | 0,_,_,_=>rfl
 | k + 1,[],_,e=>by cases e; rfl
 | k + 1,x :: l,_,⟨u,r,e,k1,k2⟩=>by subst e; exact ⟨u,r.take k,rfl,k1,AllStr.take k k2⟩
theorem pgs_take {h:Vw} {A:Option Addr} {cap:Nat} {l:List Pg} (hp:IsPgs h (.slice A l.length cap) l) (k:Nat) (hk:k≤l.length):IsPgs h (.slice A k cap) (l.take k):=by
 obtain ⟨us,vs,hr,hs,ha⟩:=hp
 have hu:=hs.len
 have hv:=ha.len
 rw [List.length_map] at hu hv
 refine ⟨us.take k,vs.take k,?_,?_,?_⟩
 ·have:=hr.take k (by rw [pW hu hv]; omega)
  rwa [pgRows_take k hu hv] at this
 ·rw [List.map_take]; exact AllStr.take k hs
 ·rw [List.map_take]; exact AllArgs.take' k ha
structure OkGs (fs:List Fd) (l:List Pg):Prop where
 one:1≤l.length
 few:l.length≤6
 name:∀ p∈l,oJ p.name.data.toList
 nodup:(l.map (·.name)).Nodup
 fl:∀ p∈l,p.fields.length≤100
 here:∀ p∈l,∀ s∈p.fields,0≤vK fs s
 once:(l.flatMap (·.fields)).Nodup
 skip:∀ p∈l,p.skip=zE∨(p.skip.op≠0∧WfE p.skip∧(szE p.skip).1 < 1000000∧fitsE fs p.skip 2=0)
set_option maxHeartbeats 8000000 in
theorem pgCheck_any (fs:List Fd) (fv:Value) (l:List Pg) (v:Value) (h:Vw) (hok:OkGs fs l) (hp:IsPgs h v l) (hfs:IsFds h fv fs) (hfl:fs.length≤1000):C0 Tryz.prog 71 #[v,fv] h (fun r _=>r=.int .i64 0):=by
 obtain ⟨us,vs,A,cap,rfl,hcap,hr,hs,ha,hul,hvl⟩:=pgs_open hp
 have hlc:l.length≤cap:=by
  obtain ⟨A',c',e',h1,-,-⟩:=hr.form
  rw [pW hul hvl] at h1
  simp only [Value.slice.injEq] at e'
  omega
 obtain ⟨-,Af,cf,rfl,-,-,-,-,-,-⟩:=uK hfs
 have one:=hok.one
 have few:=hok.few
 have hat:=fun i p hp=>pg_at (i:=i) (p:=p) hs ha hp
 have htk:=fun k hk=>pgs_take (h:=h) (A:=A) (cap:=cap) (l:=l) hp k hk
 have hFi:=fun H s q=>findP_any fs (.slice Af fs.length cf) s H q (by omega)
 have hGf:=fun k H s q=>gFind_any (l.take k) (.slice A k cap) s H q (by rw [List.length_take]; omega) (fun p hp=>by have:=hok.fl p (List.mem_of_mem_take hp); omega)
 generalize hL:l.length=len at *
 generalize hM:fs.length=fl at *
 refine fQ Tryz.func71 (c:=Tryz.f71.body.getD .skip) (N:=82) ?_
 intro hbx hbad Q hQ
 refine go0 35 [] [(18,.bool (decide ((len:Int) < 1)),.bool false),(22,.bool (decide ((len:Int) > 6)),.bool false)] ?_ (hc:=(And.intro (congrArg Value.bool (decide_eq_false (by omega))) (And.intro (congrArg Value.bool (decide_eq_false (by omega))) (trivial))))
 refine oQ 9 1 ?_
 refine mQ [0,1,0,1,1,1] [.block 0,.seq [1,1,1,1]] (fun (k:Nat) X=>∃ (W1:Vw) (mv:Value),X W1 [(0,.slice A len cap),(1,.slice Af fl cf),(24,.slice A len cap),(25,Vi (len:Int)),(26,Vi (k:Int)),(5,mv)] [.row mv 9 1 (eY ((l.take k).flatMap (·.fields)))] []∧Sees h W1∧(k≤len)) (fun k=>len - k) (0) (fun X q=>⟨h,(Vz),q _ _ _ _ ⟨rfl,by kernel_rfl⟩,Sees.refl _,Nat.zero_le _⟩) ?_
 rintro k a w ⟨W1,mv,hJ,S2,hk⟩; refine pQ hJ ?_; clear hJ a w
 refine go0 6 [] [] ?_
 rcases (by omega:k < len∨k=len) with hlt | hke
 ·obtain ⟨p,hpk⟩:∃ p,l[k]?=some p:=⟨_,List.getElem?_eq_getElem (by omega)⟩
  have hpm:=List.mem_of_getElem? hpk
  obtain ⟨Au,cu,Bu,mu,du,hrow,hrs,hxa⟩:=hat k p hpk
  have hnm:=hok.name p hpm
  have htp:=htk k hk
  have hno:findG (l.take k) p.name = -1:=fidx_none _ _ fun y hy=>tl_no fun e=>by
   obtain ⟨j,hj⟩:=List.mem_iff_getElem?.1 hy
   rw [List.getElem?_take] at hj
   split at hj
   ·rename_i hjk
    have h1:(l.map (fun p:Pg=>p.name))[j]?=some p.name:=by rw [List.getElem?_map,hj]; simp [e]
    have h2:(l.map (fun p:Pg=>p.name))[k]?=some p.name:=by rw [List.getElem?_map,hpk]; rfl
    have:=(List.getElem?_inj (by rw [List.length_map]; omega) hok.nodup).1 (h1.trans h2.symm)
    omega
   ·cases hj
  have hGk:=fun H q=>hGf k H p.name q
  rw [hno] at hGk
  have hfk:=hok.fl p hpm
  have hhere:=hok.here p hpm
  have hsn:(l.take (k + 1)).flatMap (fun p:Pg=>p.fields)=(l.take k).flatMap (fun p:Pg=>p.fields)++p.fields:=by rw [jY l k p hpk,List.flatMap_append]; simp
  have hone:((l.take k).flatMap (fun p:Pg=>p.fields)++p.fields).Nodup:=by
   rw [← hsn]
   have ho:=hok.once
   have e:l.flatMap (fun p:Pg=>p.fields)=(l.take (k + 1)).flatMap (fun p:Pg=>p.fields)++(l.drop (k + 1)).flatMap (fun p:Pg=>p.fields):=by rw [← List.flatMap_append,List.take_append_drop]
   rw [e] at ho
   exact (List.nodup_append.1 ho).1
  have hdl:((l.take k).flatMap (fun p:Pg=>p.fields)).length≤600:=by
   have key:∀ m:List Pg,(∀ p∈m,p.fields.length≤100)→(m.flatMap (fun p:Pg=>p.fields)).length≤100 * m.length:=by
    intro m
    induction m with
    | nil=>intro _; simp
    | cons q m ih =>
     intro hm
     have h1:=hm q (by simp)
     have h2:=ih fun z hz=>hm z (by simp [hz])
     rw [List.flatMap_cons,List.length_append,List.length_cons]
     omega
   have:=key (l.take k) fun q hq=>hok.fl q (List.mem_of_mem_take hq)
   rw [List.length_take] at this
   omega
  have hskip:=hok.skip p hpm
  generalize (l.take k).flatMap (fun p:Pg=>p.fields)=dn at *
  refine wQ (t:=decide ((k:Int) < (len:Int))) (decide_eq_true (by omega)) ?_
  refine go0 7 [] [] ?_
  obtain ⟨b3,o4,rfl,-,c5⟩:=RS.row hr (hrow)
  refine gQ (c5.sees S2) ?_
  refine go1 27 [.ix b3 o4 len cap k,.f 0 0,.own,.b 0 0,.b 0 0,.cl 65 #[.string p.name] (Vi 0)] [] ?_ (ho:=(And.intro (by first | omega | (simp; omega)) (And.intro (fun H sH=>c_name _ _ hnm) (trivial))))
  intro b6
  refine tQ 11 0 [.pu,.pu,.v (fun gh=>.slice (some ⟨b3,o4,none⟩) k cap),.pu,.ld 0 0,.v (fun gh=>.tuple #[Vi 0,Vi 5]),.pu,.pu,.pu,.pu,.pu] [] (trivial) ?_ ?_
  ·intro R hT hA hmono
   refine And.intro (t_p hT hA (fun gh=>.slice (some ⟨b3,o4,none⟩) k cap) (fun gh w=>run_hi (t:=39) (e:=80) (x:=(.tmp 38)) (y:=(.tmp 39)) (A:=(some ⟨b3,o4,none⟩)) (n:=len) (cap:=cap) (k:=k) (kk:=8) (by kernel_rfl) (by kernel_rfl) (by kernel_rfl) (by omega) Tryz.underlying39 (by kernel_rfl))) ?_
   refine And.intro (t_v hT hA hmono (k:=103) (args:=(fun gh=>#[.slice (some ⟨b3,o4,none⟩) k cap,.string p.name])) (f:=fun gh=>.tuple #[Vi 0,Vi 5]) (fun gh H sH fH lent=>hGk _ (htp.sees (S2.trans sH)))) ?_
   trivial
  rintro W7 S8 -
  refine go0 20 [.b 0 1] [] ?_
  have hd0:eY dn=eY (dn++p.fields.take 0):=by simp
  rw [hd0]
  refine mQ [0,1,0,1,1,1,0,0,1,1,0,0,1,0,1,1,1] [.block 2,.seq [1,1,1,1,0,0,1,1,0,0,1,0,1,1,1],.block 1,.seq [1,1,1,0,0,1,0,1,1,1]] (fun (j:Nat) X=>∃ (W9:Vw) (nv:Value),X W9 [(0,.slice (some ⟨b3,o4,none⟩) len cap),(1,.slice Af fl cf),(24,.slice (some ⟨b3,o4,none⟩) len cap),(25,Vi (len:Int)),(26,Vi (k:Int)),(7,Vp b6),(49,.slice Au p.fields.length cu),(50,Vi (p.fields.length:Int)),(51,Vi (j:Int)),(5,nv)] [.box b6 [.string p.name,.slice Au p.fields.length cu,Vi p.skip.op,Vi p.skip.k,Vi p.skip.n,.string p.skip.s,.string p.skip.nm,.slice Bu mu du],.row nv 9 1 (eY (dn++p.fields.take j))] [(b3,o4 + k * 8,[.string p.name,.slice Au p.fields.length cu,Vi p.skip.op,Vi p.skip.k,Vi p.skip.n,.string p.skip.s,.string p.skip.nm,.slice Bu mu du])]∧Sees W7 W9∧(j≤p.fields.length)) (fun j=>p.fields.length - j) (0) (fun X q=>⟨W7,mv,q _ _ _ _ ⟨rfl,by kernel_rfl⟩,Sees.refl _,Nat.zero_le _⟩) ?_
  rintro j a w ⟨W9,nv,hJ,S10,hj⟩; refine pQ hJ ?_; clear hJ a w
  refine go0 6 [] [] ?_
  rcases (by omega:j < p.fields.length∨j=p.fields.length) with hjl | hje
  ·obtain ⟨s,hsj⟩:∃ s,p.fields[j]?=some s:=⟨_,List.getElem?_eq_getElem hjl⟩
   have hsr:=str_row hsj
   have hse:vK fs s=((plc fs s:Nat):Int):=by have:=hhere s (List.mem_of_getElem? hsj); unfold plc; omega
   have hFs:=fun H q=>hFi H s q
   rw [if_neg (by omega)] at hFs
   have hjn:=jY _ j s hsj
   have hnin:memS (dn++p.fields.take j) s=false:=by
    rw [Bool.eq_false_iff]
    intro q
    have q:=memS_iff.1 q
    rcases List.mem_append.1 q with q | q
    ·exact (List.nodup_append.1 hone).2.2 s q s (List.mem_of_getElem? hsj) rfl
    ·have hd:=(List.nodup_append.1 hone).2.1
     obtain ⟨i,hi⟩:=List.mem_iff_getElem?.1 q
     rw [List.getElem?_take] at hi
     split at hi
     ·have:=(List.getElem?_inj (by omega) hd).1 (hi.trans hsj.symm); omega
     ·cases hi
   have hco:=fun H u q=>contS_any (dn++p.fields.take j) u s H q (by rw [List.length_append,List.length_take]; omega)
   rw [hnin] at hco
   refine wQ (t:=decide ((j:Int) < (p.fields.length:Int))) (decide_eq_true (by omega)) ?_
   refine go0 6 [] [] ?_
   obtain ⟨b11,o12,rfl,-,c13⟩:=RS.row hrs (hsr)
   refine gQ (c13.sees (S2.trans (S8.trans S10))) ?_
   refine go0 32 [.ix b11 o12 p.fields.length cu j,.f 0 0,.cl 104 #[.slice Af fl cf,.string s] (.tuple #[Vi ((plc fs s:Nat):Int),Vi 0])] [] ?_ (ho:=(And.intro (by first | omega | (simp; omega)) (And.intro (fun H sH=>hFs _ (hfs.sees (S2.trans (S8.trans (S10.trans sH))))) (trivial))))
   refine g_callq (fun a w hJ=>hco _ _ (hJ.j.rowQ (v:=nv) (e:=9) (k:=1) (l:=eY (dn++p.fields.take j)) 1 (by kernel_rfl))) ?_; intro W14 S15
   refine aV 9 [.fix] [] ?_
   intro b16 W17 S18
   refine goa0 9 [.ap 1 0 (eY (dn++p.fields.take j)) [[.string s]]] [(71,Vi (IntKind.i64.wrap ((j:Int) + 1)),Vi ((j:Int) + 1))] ?_ (ho:=(And.intro (by constructor <;> (simp; omega)) (trivial))) (hc:=(And.intro (jJ (by omega) (by omega)) (trivial)))
   intro v70 W19 S20
   refine kQ [(0,.slice (some ⟨b3,o4,none⟩) len cap),(1,.slice Af fl cf),(24,.slice (some ⟨b3,o4,none⟩) len cap),(25,Vi (len:Int)),(26,Vi (k:Int)),(7,Vp b6),(49,.slice (some ⟨b11,o12,none⟩) p.fields.length cu),(50,Vi (p.fields.length:Int)),(5,.slice (sA v70) (sN v70) (sC v70)),(51,Vi ((j:Int) + 1))] [.box b6 [.string p.name,.slice (some ⟨b11,o12,none⟩) p.fields.length cu,Vi p.skip.op,Vi p.skip.k,Vi p.skip.n,.string p.skip.s,.string p.skip.nm,.slice Bu mu du],.row (.slice (sA v70) (sN v70) (sC v70)) 9 1 ((eY (dn++p.fields.take j))++[[.string s]])] [(b3,o4 + k * 8,[.string p.name,.slice (some ⟨b11,o12,none⟩) p.fields.length cu,Vi p.skip.op,Vi p.skip.k,Vi p.skip.n,.string p.skip.s,.string p.skip.nm,.slice Bu mu du])] ?_
   exact vQ (j + 1) (fun X q=>⟨W19,.slice (sA v70) (sN v70) (sC v70),q _ _ _ _ (qX (by rw [hjn,← List.append_assoc]; simp [eY])),(S10.trans (S15.trans (S18.trans S20))),by omega⟩) (by omega)
  ·skip
   have hta:dn++p.fields.take j=dn++p.fields:=by rw [hje,List.take_length]
   rw [hta]
   rcases hskip with hz | ⟨z1,z2,z3,z4⟩
   ·obtain ⟨Bz,dz,ez⟩:=args_zero (by rw [hz]; rfl) hxa
    obtain rfl:mu=0:=by simp only [Value.slice.injEq] at ez; exact ez.2.1
    have hnv:=fun H=>never_yes p.name Au p.fields.length cu Bu du H
    refine iQ (t:=decide ((j:Int) < (p.fields.length:Int))) (decide_eq_false (by omega)) ?_
    refine go0 2 [] [] ?_
    refine lQ ?_
    refine go0 18 [.b 0 0,.cl 72 #[.agg #[.string p.name,.slice Au p.fields.length cu,Vi p.skip.op,Vi p.skip.k,Vi p.skip.n,.string p.skip.s,.string p.skip.nm,.slice Bu 0 du]] (.bool true)] [(81,Vi (IntKind.i64.wrap ((k:Int) + 1)),Vi ((k:Int) + 1))] ?_ (ho:=(And.intro (fun H sH=>by rw [hz]; exact hnv _) (trivial))) (hc:=(And.intro (jJ (by omega) (by omega)) (trivial)))
    refine kQ [(0,.slice (some ⟨b3,o4,none⟩) len cap),(1,.slice Af fl cf),(24,.slice (some ⟨b3,o4,none⟩) len cap),(25,Vi (len:Int)),(5,nv),(26,Vi ((k:Int) + 1))] [.row nv 9 1 (eY (dn++p.fields))] [] ?_
    exact vQ (k + 1) (fun X q=>⟨W9,nv,q _ _ _ _ (qX (by rw [hsn]; try rfl)),(S2.trans (S8.trans S10)),by omega⟩) (by omega)
   ·skip
    have hnv:=fun H=>never_no p.name p.skip Au p.fields.length cu Bu mu du H z1
    have hft:=fun H q1 q2=>fits_any fs p.skip (.slice Bu mu du) (.slice Af fl cf) 2 H q1 z2 z3 q2
    rw [z4] at hft
    refine iQ (t:=decide ((j:Int) < (p.fields.length:Int))) (decide_eq_false (by omega)) ?_
    refine go0 2 [] [] ?_
    refine lQ ?_
    refine go0 35 [.b 0 0,.cl 72 #[.agg #[.string p.name,.slice Au p.fields.length cu,Vi p.skip.op,Vi p.skip.k,Vi p.skip.n,.string p.skip.s,.string p.skip.nm,.slice Bu mu du]] (.bool false),.b 0 2,.cl 106 #[.agg #[Vi p.skip.op,Vi p.skip.k,Vi p.skip.n,.string p.skip.s,.string p.skip.nm,.slice Bu mu du],.slice Af fl cf,Vi 2] (Vi 0)] [(81,Vi (IntKind.i64.wrap ((k:Int) + 1)),Vi ((k:Int) + 1))] ?_ (ho:=(And.intro (fun H sH=>hnv _) (And.intro (fun H sH=>hft _ (hxa.sees (S2.trans (S8.trans (S10.trans sH)))) (hfs.sees (S2.trans (S8.trans (S10.trans sH))))) (trivial)))) (hc:=(And.intro (jJ (by omega) (by omega)) (trivial)))
    refine kQ [(0,.slice (some ⟨b3,o4,none⟩) len cap),(1,.slice Af fl cf),(24,.slice (some ⟨b3,o4,none⟩) len cap),(25,Vi (len:Int)),(5,nv),(26,Vi ((k:Int) + 1))] [.row nv 9 1 (eY (dn++p.fields))] [] ?_
    exact vQ (k + 1) (fun X q=>⟨W9,nv,q _ _ _ _ (qX (by rw [hsn]; try rfl)),(S2.trans (S8.trans S10)),by omega⟩) (by omega)
 ·skip
  refine iQ (t:=decide ((k:Int) < (len:Int))) (decide_eq_false (by omega)) ?_
  refine go0 2 [] [] ?_
  refine lQ ?_
  refine go0 8 [] [] ?_
  refine hQ.to [Vi 0] (fun H sH=>?_)
  exact rfl
end Go.Proofs.YthplkompdehjlaaGreatDoor
namespace Go.Proofs.YthplkompdehjlaaGreatDoor
open Go.RowKit
set_option linter.unusedVariables false
theorem ofc_any (x:Int) (h:Vw):C0 Tryz.prog 101 #[.int .i64 x] h (fun r _=>r=.bool (decide (x < 0))):=by
 refine fQ Tryz.func101 (c:=Tryz.f101.body.getD .skip) (N:=5) ?_
 intro hbx hbad Q hQ
 refine go0 13 [] [] ?_
 refine hQ.to [.bool (decide (x < 0))] (fun H sH=>?_)
 exact rfl
theorem rk_row {l:List Int} {k:Nat} {x:Int} (h:l[k]?=some x):(kX l)[k]?=some [.int .i64 x]:=by show (l.map _)[k]?=_; rw [List.getElem?_map,h]; rfl
theorem idxI_any (l:List Int) (A:Option Addr) (cap:Nat) (h:Vw) (hr:RS h 1 (.slice A l.length cap) (kX l)) (hl:l.length≤1000000) (hn:∀ x∈l,0≤x) :
  C0 Tryz.prog 126 #[.slice A l.length cap,.func (.func 101) #[] #[]] h (fun r _=>r=.int .i64 (-1)):=by
 generalize hL:l.length=len at *
 refine fQ Tryz.func126 (c:=Tryz.f126.body.getD .skip) (N:=19) ?_
 intro hbx hbad Q hQ
 refine go0 14 [] [] ?_
 refine mQ [0,1,0,1] [.block 0,.seq [1,1]] (fun (k:Nat) X=>∃ (W1:Vw) ,X W1 [(0,.slice A len cap),(1,.func (.func 101) #[] #[]),(7,Vi (len:Int)),(8,Vi (k:Int))] [] []∧Sees h W1∧(k≤len)) (fun k=>len - k) (0) (fun X q=>⟨h,q _ _ _ _ ⟨rfl,by kernel_rfl⟩,Sees.refl _,Nat.zero_le _⟩) ?_
 rintro k a w ⟨W1,hJ,S2,hk⟩; refine pQ hJ ?_; clear hJ a w
 refine go0 6 [] [] ?_
 rcases (by omega:k < len∨k=len) with hlt | hke
 ·obtain ⟨x,hxk⟩:∃ x,l[k]?=some x:=⟨_,List.getElem?_eq_getElem (by omega)⟩
  have hrow:=rk_row hxk
  have hx0:=hn x (List.mem_of_getElem? hxk)
  have hof:=fun H=>ofc_any x H
  rw [show decide (x < 0)=false from decide_eq_false (by omega)] at hof
  refine wQ (t:=decide ((k:Int) < (len:Int))) (decide_eq_true (by omega)) ?_
  refine go0 15 [] [] ?_
  obtain ⟨b3,o4,rfl,-,c5⟩:=RS.row hr (hrow)
  refine gQ (c5.sees S2) ?_
  refine go0 13 [.ix b3 o4 len cap k,.f 0 0,.cl 101 #[Vi x] (.bool false)] [(18,Vi (IntKind.i64.wrap ((k:Int) + 1)),Vi ((k:Int) + 1))] ?_ (ho:=(And.intro (by first | omega | (simp; omega)) (And.intro (fun H sH=>hof _) (trivial)))) (hc:=(And.intro (jJ (by omega) (by omega)) (trivial)))
  exact vQ (k + 1) (fun X q=>⟨W1,q _ _ _ _ ⟨rfl,by kernel_rfl⟩,S2,by omega⟩) (by omega)
 ·skip
  refine iQ (t:=decide ((k:Int) < (len:Int))) (decide_eq_false (by omega)) ?_
  refine go0 2 [] [] ?_
  refine lQ ?_
  refine go0 8 [] [] ?_
  refine hQ.to [Vi (-1)] (fun H sH=>?_)
  exact rfl
theorem cfI_any (l:List Int) (A:Option Addr) (cap:Nat) (h:Vw) (hr:RS h 1 (.slice A l.length cap) (kX l)) (hl:l.length≤1000000) (hn:∀ x∈l,0≤x) :
  C0 Tryz.prog 100 #[.slice A l.length cap,.func (.func 101) #[] #[]] h (fun r _=>r=.bool false):=by
 have hi:=fun H q=>idxI_any l A cap H q hl hn
 refine fQ Tryz.func100 (c:=Tryz.f100.body.getD .skip) (N:=9) ?_
 intro hbx hbad Q hQ
 refine go0 15 [.cl 126 #[.slice A l.length cap,.func (.func 101) #[] #[]] (Vi (-1))] [] ?_ (ho:=(And.intro (fun H sH=>hi _ (hr.sees sH)) (trivial)))
 refine hQ.to [.bool false] (fun H sH=>?_)
 exact rfl
theorem mem_getD {l:List Int} {x:Int} (h:x∈l):∃ i,i < l.length∧x=l.getD i 0:=by
 obtain ⟨i,hi,e⟩:=List.mem_iff_getElem.1 h
 exact ⟨i,hi,by rw [List.getD_eq_getElem?_getD,List.getElem?_eq_getElem hi,e]; rfl⟩
theorem rankOf_any (fs:List Fd) (fv:Value) (h:Vw) (hok:OkFs fs) (hfs:IsFds h fv fs) (ρ:List Int) (lv:Nat→Nat) (hρ:Ranked (vV fs) ρ lv) :
  C0 Tryz.prog 70 #[fv] h (fun r h'=>∃ b,r=.tuple #[.slice (some ⟨b,0,none⟩) fs.length fs.length,.slice none 0 0,.int .i64 0]∧RS h' 1 (.slice (some ⟨b,0,none⟩) fs.length fs.length) (kX ρ)):=by
 have few:=hok.few
 have hck:=fun H q=>check_fields fs fv H hok q
 have hne:=fun H q=>needs_any fs fv H hok q
 have hnl:(vV fs).length=fs.length:=by unfold vV; rw [List.length_map]
 have hb:∀ l∈vV fs,l.length≤1000∧∀ k∈l,k < (vV fs).length:=fun l hl=>by
  obtain ⟨i,hi⟩:=List.mem_iff_getElem?.1 hl
  have hil:=(List.getElem?_eq_some_iff.1 hi).1
  have hg:(vV fs).getD i []=l:=by rw [List.getD_eq_getElem?_getD,hi]; rfl
  refine ⟨?_,fun k hk=>(hρ.low i hil k (by rw [hg]; exact hk)).1⟩
  obtain ⟨f,hf,rfl⟩:=List.mem_map.1 hl
  unfold needE
  split
  ·simp
  ·rename_i g
   obtain ⟨-,w2,-⟩:=(hok.each f hf).wf g
   have:=Nat.le_trans (namesE_len f.src) (refs_le f.src)
   rw [List.length_map]; omega
 have hrk:=fun A cap us H q1 q2=>ranks_any (vV fs) A cap us H q1 q2 (by omega) hb
 rw [ranks_true hρ,hnl] at hrk
 have hρl:ρ.length=fs.length:=hρ.len.trans hnl
 have hnn:∀ x∈ρ,0≤x:=fun x hx=>by
  obtain ⟨i,hi,rfl⟩:=mem_getD hx
  exact rank_nn hρ (by have:=hρ.len; omega)
 have hcf:=fun b H q=>cfI_any ρ (some ⟨b,0,none⟩) fs.length H q (by omega) hnn
 rw [hρl] at hcf
 obtain ⟨-,A,c,rfl,-,-,-,-,-,-⟩:=uK hfs
 generalize vV fs=need at *
 generalize hL:fs.length=len at *
 refine fQ Tryz.func70 (c:=Tryz.f70.body.getD .skip) (N:=42) ?_
 intro hbx hbad Q hQ
 refine go0 27 [.cl 97 #[.slice A len c] (Vi 0)] [] ?_ (ho:=(And.intro (fun H sH=>hck _ (hfs.sees sH)) (trivial)))
 refine bQ (fun H sH=>hne _ (hfs.sees sH)) ?_; rintro _ W1 S2 ⟨An,cn,us,rfl,hrn,hna⟩
 refine go0 6 [] [] ?_
 refine bQ (fun H sH=>hrk _ _ us _ (hrn.sees sH) (hna.sees sH)) ?_; rintro _ W3 S4 ⟨b,rfl,hro⟩
 refine go0 7 [] [] ?_
 refine go0 15 [.cl 100 #[Vs b len len,.func (.func 101) #[] #[]] (.bool false)] [] ?_ (ho:=(And.intro (fun H sH=>hcf b _ (hro.sees sH)) (trivial)))
 refine hQ.to [Vs b len len,Vz,Vi 0] (fun H sH=>?_)
 exact ⟨b,rfl,(hro.sees sH)⟩
end Go.Proofs.YthplkompdehjlaaGreatDoor
namespace Go.Proofs.YthplkompdehjlaaGreatDoor
open Go.RowKit
set_option linter.unusedVariables false
structure OkFm (f:Fm) (ρ:List Int) (lv:Nat→Nat):Prop where
 fields:OkFs f.fields
 pages:OkGs f.fields f.pages
 rank:Ranked (vV f.fields) ρ lv
theorem shCheck_any (f:Fm) (ρ:List Int) (lv:Nat→Nat) (A:Option Addr) (n c:Nat) (B:Option Addr) (m d:Nat) (h:Vw) (hok:OkFm f ρ lv) (hf:IsForm h (.slice A n c) (.slice B m d) f) (hn:n=f.fields.length) :
  C0 Tryz.prog 36 #[.agg #[.slice A n c,.slice B m d]] h (fun r _=>r=.int .i64 0):=by
 have hR:=fun H q=>rankOf_any f.fields (.slice A n c) H hok.fields q ρ lv hok.rank
 have few:=hok.fields.few
 have hP:=fun H q1 q2=>pgCheck_any f.fields (.slice A n c) f.pages (.slice B m d) H hok.pages q1 q2 (by omega)
 rw [← hn] at hR
 refine fQ Tryz.func36 (c:=Tryz.f36.body.getD .skip) (N:=21) ?_
 intro hbx hbad Q hQ
 refine go1 11 [.own,.b 0 0] [] ?_
 intro b1
 refine bQ (fun H sH=>hR _ ((hf.sees sH)).fields) ?_; rintro _ W2 S3 ⟨b,rfl,hro⟩
 refine go0 24 [.b 0 1,.b 0 0] [] ?_
 refine go0 5 [.cl 71 #[.slice B m d,.slice A n c] (Vi 0)] [] ?_ (ho:=(And.intro (fun H sH=>hP _ ((hf.sees (S3.trans sH))).pages ((hf.sees (S3.trans sH))).fields) (trivial)))
 refine hQ.to [Vi 0] (fun H sH=>?_)
 exact rfl
theorem zE_small:(szE zE).1 < 1000000:=by
 rw [fY]
 show 1 + (szL ([]:List Ex)).1 < 1000000
 rw [szL]; decide
theorem OkFm.small {f:Fm} {ρ:List Int} {lv:Nat→Nat} (h:OkFm f ρ lv):(∀ g∈f.fields,(szE g.src).1 < 1000000)∧∀ g∈f.pages,(szE g.skip).1 < 1000000:=by
 refine ⟨fun g hg=>?_,fun g hg=>?_⟩
 ·have hF:=h.fields.each g hg
  by_cases k:g.kind=1
  ·rw [hF.inp k]; exact zE_small
  ·have:=(hF.wf k).2.1; omega
 ·rcases h.pages.skip g hg with e | e
  ·rw [e]; exact zE_small
  ·exact e.2.2.1
end Go.Proofs.YthplkompdehjlaaGreatDoor
namespace Go.Proofs.YthplkompdehjlaaGreatDoor
open Go.RowKit
set_option linter.unusedVariables false
structure FmW (fm:Fm):Prop where
 fd:∀ f∈fm.fields,f.kind≠1→(szE f.src).2≤12
 pg:∀ p∈fm.pages,PgW p
theorem join_prn {sep:List UInt8} (hs:Prn sep):∀ l:List (List UInt8),(∀ x∈l,Prn x)→Prn (Lib.join l sep)
 | [],_=>Prn.nil
 | [x],h=>by rw [Lib.join_one]; exact h x (by simp)
 | x :: y :: r,h=>by
  rw [jV]
  exact (h x (by simp)).app (hs.app (join_prn hs (y :: r) fun z hz=>h z (List.mem_cons_of_mem _ hz)))
theorem pgL_prn {p:Pg} (h:PgW p):Prn (pgL p):=by
 have hj:Prn (nmJ p):=join_prn (Prn.cons (by decide) (Prn.cons (by decide) Prn.nil)) _ fun x hx=>by
  obtain ⟨s,hs,rfl⟩:=List.mem_map.1 hx
  exact name_prn (h.fs s hs)
 have hb:Prn (pgB p):=by
  unfold pgB
  split
  ·exact hj
  ·rename_i k
   rcases h.sk with e | ⟨-,e,-,-⟩
   ·rw [e] at k; exact absurd rfl k
   ·exact hj.app ((Prn.cons (by decide) (Prn.cons (by decide) Prn.nil)).app (prt_prn _ _ _ (Nat.le_refl _) e))
 exact (name_prn h.nm).app ((Prn.cons (by decide) (Prn.cons (by decide) Prn.nil)).app hb)
theorem pgW_prn:Prn pgW:=fun c hc=>by revert c; decide
theorem lnF_len (fm:Fm):(lnF fm).length=fm.fields.length + fm.pages.length:=by unfold lnF; rw [List.length_append,List.length_map,List.length_map]
theorem lnF_fd {fm:Fm} {k:Nat} {f:Fd} (h:fm.fields[k]?=some f):(lnF fm)[k]?=some (fdL f):=by
 obtain ⟨hk,-⟩:=List.getElem?_eq_some_iff.1 h
 unfold lnF
 rw [List.getElem?_append_left (by rw [List.length_map]; exact hk),List.getElem?_map,h]; rfl
theorem lnF_pg {fm:Fm} {k:Nat} {p:Pg} (hk:fm.fields.length≤k) (h:fm.pages[k - fm.fields.length]?=some p):(lnF fm)[k]?=some (pgW++pgL p):=by
 unfold lnF
 rw [List.getElem?_append_right (by rw [List.length_map]; exact hk),List.length_map,List.getElem?_map,h]; rfl
theorem lnF_each {fm:Fm} {ρ:List Int} {lv:Nat→Nat} (hok:OkFm fm ρ lv) (hw:FmW fm):∀ x∈lnF fm,x.length≤10005∧(10:UInt8) ∉ x:=fun x hx=>by
 rcases List.mem_append.1 hx with q | q
 ·obtain ⟨f,hf,rfl⟩:=List.mem_map.1 q
  have hF:=hok.fields.each f hf
  have h1:=fdL_len hF.words fun g=>(hF.wf g).2.1
  exact ⟨by omega,(fdL_prn hF.words).no10⟩
 ·obtain ⟨p,hp,rfl⟩:=List.mem_map.1 q
  have h1:=pgL_len (hw.pg p hp)
  refine ⟨?_,(pgW_prn.app (pgL_prn (hw.pg p hp))).no10⟩
  rw [List.length_append]
  have:pgW.length=5:=rfl
  omega
theorem c_lines (fm:Fm) (ρ:List Int) (lv:Nat→Nat) (hok:OkFm fm ρ lv) (hw:FmW fm) (n1:1≤fm.fields.length) (H:Vw) (q:Lk H) :
  C0 Tryz.prog 19 #[.string (mkB (Lib.join (lnF fm) [10])),.string ⟨#[10]⟩] H (fun r h'=>∃ b,r=.slice (some ⟨b,0,none⟩) (fm.fields.length + fm.pages.length) (fm.fields.length + fm.pages.length)∧RS h' 1 (.slice (some ⟨b,0,none⟩) (fm.fields.length + fm.pages.length) (fm.fields.length + fm.pages.length)) ((lnF fm).map fun x=>[.string (mkB x)])):=by
 have he:=lnF_each hok hw
 have hl:=lnF_len fm
 have few:=hok.fields.few
 have fewp:=hok.pages.few
 have hj:=join_len (M:=10005) (lnF fm) fun x hx=>(he x hx).1
 have hm:(lnF fm).length * (10005 + 1)≤20 * (10005 + 1):=Nat.mul_le_mul_right _ (by omega)
 refine (c_splitC (mkB (Lib.join (lnF fm) [10])) ⟨#[10]⟩ _ H q (by rw [pV]; omega) (by decide) (split_join rfl _ (fun e=>by rw [e] at hl; simp at hl; omega) fun x hx=>(he x hx).2)).mono fun v h' _ k=>?_
 obtain ⟨b,e,c⟩:=k
 have ef:((lnF fm).map fun x=>Value.string (mkB x))=(((lnF fm).map fun x=>[Value.string (mkB x)]):List (List Value)).flatten:=by
  rw [← List.flatMap_def,← List.map_eq_flatMap]
 rw [ef] at c
 have hr:=mX (k:=1) _ (fun r hr=>by obtain ⟨s,-,rfl⟩:=List.mem_map.1 hr; rfl) (by rw [List.length_map]; unfold maxLen; omega) c
 rw [List.length_map,hl] at hr
 rw [hl] at e
 exact ⟨b,e,hr⟩
set_option maxHeartbeats 4000000 in
theorem read_any (fm:Fm) (ρ:List Int) (lv:Nat→Nat) (h:Vw) (lk:Lk h) (hok:OkFm fm ρ lv) (hw:FmW fm) (n1:1≤fm.fields.length) :
  C0 Tryz.prog 14 #[.string (mkB (Lib.join (lnF fm) [10]))] h (fun r h'=>(((∃ f∈fm.fields,pK f)∨∃ p∈fm.pages,lW p)∧∃ n,r=.tuple #[.agg #[.slice none 0 0,.slice none 0 0],.int .i64 n,.int .i64 1])∨((∀ f∈fm.fields,¬ pK f)∧(∀ p∈fm.pages,¬ lW p)∧∃ u v,r=.tuple #[.agg #[.slice (sA u) (sN u) (sC u),.slice (sA v) (sN v) (sC v)],.int .i64 0,.int .i64 0]∧IsForm h' (.slice (sA u) (sN u) (sC u)) (.slice (sA v) (sN v) (sC v)) fm)):=by
 have hS:=fun H q=>c_lines fm ρ lv hok hw n1 H q
 have hfd:=fun k f=>lnF_fd (fm:=fm) (k:=k) (f:=f)
 have hpg:=fun k p=>lnF_pg (fm:=fm) (k:=k) (p:=p)
 have hcf:=fun f (q:f∈fm.fields) H=>cutp_f (hok.fields.each f q).words H
 have hcp:=fun (p:Pg) H=>cutp_p (pgL p) H
 have hFn:=fun f (q:f∈fm.fields) H q1 q2=>readField_no fm.fields f H q1 (hok.fields.each f q) (hw.fd f q) q2
 have hFo:=fun f (q:f∈fm.fields) H q1 q2=>readField_ok fm.fields f H q1 (hok.fields.each f q) (hw.fd f q) q2
 have hPn:=fun p (q:p∈fm.pages) H q1 q2=>readPage_no p H q1 (hw.pg p q) q2
 have hPo:=fun p (q:p∈fm.pages) H q1 q2=>readPage_ok p H q1 (hw.pg p q) q2
 have hCk:=fun A n c B m d H q1 q2=>shCheck_any fm ρ lv A n c B m d H hok q1 q2
 have few:=hok.fields.few
 have fewp:=hok.pages.few
 have onep:=hok.pages.one
 generalize mkB (Lib.join (lnF fm) [10])=sl at *
 obtain ⟨nf,hnf⟩:∃ n,fm.fields.length=n:=⟨_,rfl⟩
 obtain ⟨np,hnp⟩:∃ n,fm.pages.length=n:=⟨_,rfl⟩
 rw [hnf,hnp] at hS
 rw [hnf] at few hpg n1 hCk
 rw [hnp] at fewp onep
 obtain ⟨nN,hNN⟩:∃ n,nf + np=n:=⟨_,rfl⟩
 rw [hNN] at hS
 obtain ⟨ls,hls⟩:∃ ls,lnF fm=ls:=⟨_,rfl⟩
 rw [hls] at hS
 simp only [hls] at hfd hpg
 refine fQ Tryz.func14 (c:=Tryz.f14.body.getD .skip) (N:=85) ?_
 intro hbx hbad Q hQ
 refine go1 10 [.own] [] ?_
 intro b1
 refine bQ (fun H sH=>hS _ (lk.sees sH)) ?_; rintro _ W2 S3 ⟨b,rfl,hr⟩
 refine go0 11 [] [] ?_
 refine iQ (t:=decide ((nN:Int) > 20)) (decide_eq_false (by omega)) ?_
 refine go1 16 [.own] [] ?_
 intro bo
 refine oQ 46 9 ?_
 refine oQ 80 8 ?_
 refine mQ [0,1,0,1,1,1,1] [.block 0,.seq [1,1,1,1,1]] (fun (k:Nat) X=>∃ (W4:Vw) (pl:List Pg) (vf:Value) (vp:Value) (vs:List Value) (us:List Value) (ws:List Value),X W4 [(2,Vp b1),(6,Vp bo),(22,Vs b nN nN),(23,Vi (nN:Int)),(24,Vi (k:Int))] [.row vp 80 8 (oW pl us ws),.row vf 46 9 (qK (fm.fields.take k) vs),.box bo [vf,vp],.box b1 [Vz,Vz]] []∧Sees W2 W4∧(k≤nN)∧(pl=fm.pages.take (k - nf))∧(AllSrc W4 (fm.fields.take k) vs)∧(AllStr W4 (pl.map (·.fields)) us)∧(AllArgs W4 (pl.map (·.skip)) ws)∧(∀ f∈fm.fields.take k,¬ pK f)∧(∀ p∈pl,¬ lW p)) (fun k=>nN - k) (0) (fun X q=>⟨W2,[],(Vz),(Vz),[],[],[],q _ _ _ _ ⟨rfl,by kernel_rfl⟩,Sees.refl _,Nat.zero_le _,by rw [Nat.zero_sub]; rfl,by unfold AllSrc AllArgs; rfl,rfl,by unfold AllArgs; rfl,fun f q=>by simp at q,fun p q=>by cases q⟩) ?_
 rintro k a w ⟨W4,pl,vf,vp,vs,us,ws,hJ,S5,hk,hpe,hvs,hus,hws,hlf,hlp⟩; refine pQ hJ ?_; clear hJ a w
 refine go0 6 [] [] ?_
 have hvl:=hvs.len
 have hul:=hus.len
 have hwl:=hws.len
 rw [List.length_map] at hul hwl
 have hfl:=sK hvl
 have hpl:=pW hul hwl
 have hpk:=congrArg List.length hpe
 rw [List.length_take,hnp] at hpk
 rw [List.length_take] at hfl
 rw [hnf] at hfl
 rcases (by omega:k < nf∨(nf≤k∧k < nN)∨k=nN) with hlt | ⟨hge,hlt⟩ | hke
 ·obtain ⟨f,hfk⟩:∃ f,fm.fields[k]?=some f:=⟨_,List.getElem?_eq_getElem (by omega)⟩
  have hfm:=List.mem_of_getElem? hfk
  have hrow:(ls.map fun x=>[Value.string (mkB x)])[k]?=some [.string (mkB (fdL f))]:=by rw [List.getElem?_map,hfd k f hfk]; rfl
  have hsn:=jY _ k f hfk
  have e0:k - nf=0:=by omega
  have e1:k + 1 - nf=k - nf:=by omega
  have hcf:=fun H=>hcf f hfm H
  have hFn:=fun H q=>hFn f hfm H q
  have hFo:=fun H q=>hFo f hfm H q
  generalize mkB (fdL f)=sf at *
  refine jQ 0 (v:=vp) (e:=80) (kk:=8) (l:=oW pl us ws) ?_; intro Ap cp hE_vp hc_vp hm_vp
  rw [show (oW pl us ws).length=0 from by first | omega | (simp; done) | (simp; omega)] at hE_vp hc_vp
  rw [hE_vp]
  refine wQ (t:=decide ((k:Int) < (nN:Int))) (decide_eq_true (by omega)) ?_
  refine go0 7 [] [] ?_
  have c6:=RS.cell hr (hrow)
  refine gQ (c6.sees S5) ?_
  refine go0 29 [.ix b 0 nN nN k,.f 0 0,.cl 33 #[.string sf,.string ⟨#[112,97,103,101,32]⟩] (.tuple #[.string sf,.bool false])] [] ?_ (ho:=(And.intro (by first | omega | (simp; omega)) (And.intro (fun H sH=>hcf _) (trivial))))
  by_cases hl:pK f
  ·skip
   refine go1 48 [.cl 35 #[.string sf] (.tuple #[.agg #[Ve,Vi 0,Vi 0,Vi 0,Vi 0,Vi 0,Ve,Ve,Vz],Vi 1]),.own,.b 0 0,.b 4 0] [(69,Vi (IntKind.i64.wrap ((k:Int) + 1)),Vi ((k:Int) + 1))] ?_ (ho:=(And.intro (fun H sH=>hFn _ (lk.sees (S3.trans (S5.trans sH))) hl) (trivial))) (hc:=(And.intro (jJ (by omega) (by omega)) (trivial)))
   intro b7
   refine lQ ?_
   refine go0 2 [] [] ?_
   refine hQ.to [.agg #[Vz,Vz],Vi ((k:Int) + 1),Vi 1] (fun H sH=>?_) (ix:=[4])
   exact .inl ⟨.inl ⟨f,hfm,hl⟩,_,rfl⟩
  ·skip
   refine bQ (fun H sH=>hFo _ (lk.sees (S3.trans (S5.trans sH))) hl) ?_; rintro _ W8 S9 ⟨u,rfl,hu⟩
   refine gov2 39 [.own,.b 0 0,.b 3 1,.b 3 0,.b 0 0,.fix] [] ?_
   intro b10 b11 W12 S13
   refine goa0 10 [.ap 2 0 (qK (fm.fields.take k) vs) [[.string f.name,Vi f.kind,Vi f.ty,Vi f.src.op,Vi f.src.k,Vi f.src.n,.string f.src.s,.string f.src.nm,.slice (sA u) (sN u) (sC u)]],.b 3 0] [(77,Vi (IntKind.i64.wrap ((k:Int) + 1)),Vi ((k:Int) + 1))] ?_ (ho:=(And.intro (by rw [hfl]; simp; omega) (trivial))) (hc:=(And.intro (jJ (by omega) (by omega)) (trivial)))
   intro nf2 W14 S15
   refine kQ [(2,Vp b1),(6,Vp bo),(22,Vs b nN nN),(23,Vi (nN:Int)),(24,Vi ((k:Int) + 1))] [.row (.slice Ap 0 cp) 80 8 (oW pl us ws),.row (.slice (sA nf2) (sN nf2) (sC nf2)) 46 9 ((qK (fm.fields.take k) vs)++[[.string f.name,Vi f.kind,Vi f.ty,Vi f.src.op,Vi f.src.k,Vi f.src.n,.string f.src.s,.string f.src.nm,.slice (sA u) (sN u) (sC u)]]),.box bo [.slice (sA nf2) (sN nf2) (sC nf2),.slice Ap 0 cp],.box b1 [Vz,Vz]] [] ?_
   exact vQ (k + 1) (fun X q=>⟨W14,pl,.slice (sA nf2) (sN nf2) (sC nf2),.slice Ap 0 cp,vs++[.slice (sA u) (sN u) (sC u)],us,ws,q _ _ _ _ (qX (by rw [hsn,tK hvl]; try rfl)),(S5.trans (S9.trans (S13.trans S15))),by omega,by rw [e1]; exact hpe,by rw [hsn]; exact AllSrc.snoc (hvs.sees (S9.trans (S13.trans S15))) (hu.sees (S13.trans S15)),(hus.sees (S9.trans (S13.trans S15))),(hws.sees (S9.trans (S13.trans S15))),(by rw [hsn]; exact fun g q=>(List.mem_append.1 q).elim (hlf g) (fun e=>by rw [List.mem_singleton.1 e]; exact hl)),hlp⟩) (by omega)
 ·skip
  obtain ⟨p,hpg0⟩:∃ p,fm.pages[k - nf]?=some p:=⟨_,List.getElem?_eq_getElem (by omega)⟩
  have hpm:=List.mem_of_getElem? hpg0
  have hrow:(ls.map fun x=>[Value.string (mkB x)])[k]?=some [.string (mkB (pgW++pgL p))]:=by rw [List.getElem?_map,hpg k p hge hpg0]; rfl
  have hsn:=jY _ (k - nf) p hpg0
  have e1:k + 1 - nf=k - nf + 1:=by omega
  have e2:fm.fields.take (k + 1)=fm.fields.take k:=by rw [List.take_of_length_le (by omega),List.take_of_length_le (by omega)]
  have hcp:=fun H=>hcp p H
  have hPn:=fun H q=>hPn p hpm H q
  have hPo:=fun H q=>hPo p hpm H q
  generalize mkB (pgW++pgL p)=sp at *
  generalize mkB (pgL p)=sq at *
  refine wQ (t:=decide ((k:Int) < (nN:Int))) (decide_eq_true (by omega)) ?_
  refine go0 7 [] [] ?_
  have c16:=RS.cell hr (hrow)
  refine gQ (c16.sees S5) ?_
  refine go0 27 [.ix b 0 nN nN k,.f 0 0,.cl 33 #[.string sp,.string ⟨#[112,97,103,101,32]⟩] (.tuple #[.string sq,.bool true])] [] ?_ (ho:=(And.intro (by first | omega | (simp; omega)) (And.intro (fun H sH=>hcp _) (trivial))))
  by_cases hl:lW p
  ·skip
   refine go1 33 [.cl 34 #[.string sq] (.tuple #[.agg #[Ve,Vz,Vi 0,Vi 0,Vi 0,Ve,Ve,Vz],Vi 1]),.own,.b 0 0,.b 4 0] [(44,Vi (IntKind.i64.wrap ((k:Int) + 1)),Vi ((k:Int) + 1))] ?_ (ho:=(And.intro (fun H sH=>hPn _ (lk.sees (S3.trans (S5.trans sH))) hl) (trivial))) (hc:=(And.intro (jJ (by omega) (by omega)) (trivial)))
   intro b17
   refine lQ ?_
   refine go0 2 [] [] ?_
   refine hQ.to [.agg #[Vz,Vz],Vi ((k:Int) + 1),Vi 1] (fun H sH=>?_) (ix:=[4])
   exact .inl ⟨.inr ⟨p,hpm,hl⟩,_,rfl⟩
  ·skip
   refine bQ (fun H sH=>hPo _ (lk.sees (S3.trans (S5.trans sH))) hl) ?_; rintro _ W18 S19 ⟨u,v,rfl,hu,hv⟩
   refine gov2 24 [.own,.b 0 0,.b 3 1,.b 0 0,.fix] [] ?_
   intro b20 b21 W22 S23
   refine goa0 13 [.ap 1 0 (oW pl us ws) [[.string p.name,.slice (sA u) (sN u) (sC u),Vi p.skip.op,Vi p.skip.k,Vi p.skip.n,.string p.skip.s,.string p.skip.nm,.slice (sA v) (sN v) (sC v)]],.b 3 1] [(77,Vi (IntKind.i64.wrap ((k:Int) + 1)),Vi ((k:Int) + 1))] ?_ (ho:=(And.intro (by rw [hpl]; simp; omega) (trivial))) (hc:=(And.intro (jJ (by omega) (by omega)) (trivial)))
   intro np2 W24 S25
   refine kQ [(2,Vp b1),(6,Vp bo),(22,Vs b nN nN),(23,Vi (nN:Int)),(24,Vi ((k:Int) + 1))] [.row (.slice (sA np2) (sN np2) (sC np2)) 80 8 ((oW pl us ws)++[[.string p.name,.slice (sA u) (sN u) (sC u),Vi p.skip.op,Vi p.skip.k,Vi p.skip.n,.string p.skip.s,.string p.skip.nm,.slice (sA v) (sN v) (sC v)]]),.row vf 46 9 (qK (fm.fields.take k) vs),.box bo [vf,.slice (sA np2) (sN np2) (sC np2)],.box b1 [Vz,Vz]] [] ?_
   exact vQ (k + 1) (fun X q=>⟨W24,pl++[p],vf,.slice (sA np2) (sN np2) (sC np2),vs,us++[.slice (sA u) (sN u) (sC u)],ws++[.slice (sA v) (sN v) (sC v)],q _ _ _ _ (qX (by rw [qW hul hwl,e2]; try rfl)),(S5.trans (S19.trans (S23.trans S25))),by omega,by rw [e1,hsn,hpe],by rw [e2]; exact (hvs.sees (S19.trans (S23.trans S25))),by rw [List.map_append]; exact AllStr.snoc (hu.sees (S23.trans S25)) (hus.sees (S19.trans (S23.trans S25))),by rw [List.map_append]; exact AllArgs.snoc (hv.sees (S23.trans S25)) (hws.sees (S19.trans (S23.trans S25))),by rw [e2]; exact hlf,(by exact fun g q=>(List.mem_append.1 q).elim (hlp g) (fun e=>by rw [List.mem_singleton.1 e]; exact hl))⟩) (by omega)
 ·skip
  have et:fm.fields.take k=fm.fields:=List.take_of_length_le (by omega)
  have ep:fm.pages.take (k - nf)=fm.pages:=List.take_of_length_le (by omega)
  rw [et] at hvs hlf hfl ⊢
  rw [ep] at hpe
  subst hpe
  refine jQ 1 (v:=vf) (e:=46) (kk:=9) (l:=qK fm.fields vs) ?_; intro Af cf hE_vf hc_vf hm_vf
  rw [show (qK fm.fields vs).length=nf from by first | omega | (simp; done) | (simp; omega)] at hE_vf hc_vf
  rw [hE_vf]
  refine jQ 0 (v:=vp) (e:=80) (kk:=8) (l:=oW fm.pages us ws) ?_; intro Ap cp hE_vp hc_vp hm_vp
  rw [show (oW fm.pages us ws).length=np from by first | omega | (simp; done) | (simp; omega)] at hE_vp hc_vp
  rw [hE_vp]
  refine iQ (t:=decide ((k:Int) < (nN:Int))) (decide_eq_false (by omega)) ?_
  refine go0 2 [] [] ?_
  refine lQ ?_
  refine go0 6 [.b 2 0] [] ?_
  refine g_freeze 0 (v:=.slice Ap np cp) (e:=80) (kk:=8) (l:=oW fm.pages us ws) ?_; intro W26 S27 fP
  refine g_freeze 0 (v:=.slice Af nf cf) (e:=46) (kk:=9) (l:=qK fm.fields vs) ?_; intro W28 S29 fF
  refine go0 22 [.cl 36 #[.agg #[.slice Af nf cf,.slice Ap np cp]] (Vi 0),.b 0 0,.b 1 0] [] ?_ (ho:=(And.intro (fun H sH=>hCk _ _ _ _ _ _ _ ⟨⟨vs,(fF.sees sH),(hvs.sees (S27.trans (S29.trans sH)))⟩,us,ws,(fP.sees (S29.trans sH)),(hus.sees (S27.trans (S29.trans sH))),(hws.sees (S27.trans (S29.trans sH)))⟩ rfl) (trivial)))
  refine hQ.to [.agg #[.slice Af nf cf,.slice Ap np cp],Vi 0,Vi 0] (fun H sH=>?_) (ix:=[1])
  exact .inr ⟨hlf,hlp,.slice Af nf cf,.slice Ap np cp,rfl,⟨vs,(fF.sees sH),(hvs.sees (S27.trans (S29.trans sH)))⟩,us,ws,(fP.sees (S29.trans sH)),(hus.sees (S27.trans (S29.trans sH))),(hws.sees (S27.trans (S29.trans sH)))⟩
end Go.Proofs.YthplkompdehjlaaGreatDoor
namespace Go.Proofs.YthplkompdehjlaaGreatDoor
open Go.RowKit
set_option linter.unusedVariables false
theorem run_catZ {t:TypeId} {a b c:ByteArray} {P:Program} {w:World} (h:a.size + b.size≤100000) (e:a.data.toList++b.data.toList=c.data.toList):(binOp .add t (.string a) (.string b)).run P w=.ok (.string c) w:=by
 have:=run_catb (t:=t) (P:=P) (w:=w) h e
 rw [this]
theorem c_join (xs:List ByteArray) (sep:ByteArray) (v:Value) (h:Vw) (hr:RS h 1 v (eY xs)) (hl:xs.length≤1000000) (hlen:(Lib.join (xs.map fun s=>s.data.toList) sep.data.toList).length≤1000000) :
  C0 Tryz.prog 21 #[v,.string sep] h (fun r _=>r=.string (mkB (Lib.join (xs.map fun s=>s.data.toList) sep.data.toList))):=by
 rcases hr with ⟨A,cap,rfl,-,-,hx⟩ | ⟨b,off,cap,rfl,h1,h2,hb,hn,hc⟩
 ·obtain rfl:xs=[]:=List.map_eq_nil_iff.1 hx
  exact C0.at_ ((Tryz.strings_Join_none A cap sep h.w).mono fun e w' ⟨he,hw⟩=>⟨he,by rw [hw]; exact Below.refl _ _⟩)
 ·rw [List.length_map] at *
  refine C0.at_ ((Tryz.strings_Join b off cap xs sep h.w (fun j x hx=>?_) hb (by omega) h1 (by omega)).mono fun e w' ⟨he,hw⟩=>⟨he,hw⟩)
  have:=hc j [.string x] (by rw [List.getElem?_map,hx]; rfl) 0 (.string x) rfl
  rwa [Nat.mul_one] at this
set_option maxHeartbeats 1000000 in
theorem pageLine_any (p:Pg) (A:Option Addr) (n c:Nat) (B:Option Addr) (m d:Nat) (h:Vw) (lk:Lk h) (hw:PgW p) (hr:RS h 1 (.slice A n c) (eY p.fields)) (ha:IsArgs h p.skip (.slice B m d)) :
  C0 Tryz.prog 41 #[.agg #[.string p.name,.slice A n c,.int .i64 p.skip.op,.int .i64 p.skip.k,.int .i64 p.skip.n,.string p.skip.s,.string p.skip.nm,.slice B m d]] h (fun r _=>r=.string (mkB (pgW++pgL p))):=by
 have hL:=pgL_len hw
 have hn10:=hw.nm.2.1
 have hf:=hw.few
 have hJ0:∀ H,RS H 1 (.slice A n c) (eY p.fields)→C0 Tryz.prog 21 #[.slice A n c,.string ⟨#[44,32]⟩] H (fun r _=>r=.string (mkB (nmJ p))):=fun H q=>c_join p.fields ⟨#[44,32]⟩ _ H q (by omega) (by have:=hL.2.2; unfold nmJ at this; show (Lib.join _ [44,32]).length≤_; omega)
 obtain ⟨J,j1⟩:∃ J,mkB (nmJ p)=J:=⟨_,rfl⟩
 have j2:J.data.toList=nmJ p:=by rw [← j1,oV]
 have j3:J.size≤1200:=by rw [← j1,pV]; exact hL.2.2
 rw [j1] at hJ0
 obtain ⟨S8,a8⟩:∃ S8:ByteArray,S8.data.toList=[112,97,103,101,32]++p.name.data.toList:=⟨mkB _,oV _⟩
 obtain ⟨S9,a9⟩:∃ S9:ByteArray,S9.data.toList=S8.data.toList++[58,32]:=⟨mkB _,oV _⟩
 obtain ⟨S13,a13⟩:∃ S13:ByteArray,S13.data.toList=S9.data.toList++J.data.toList:=⟨mkB _,oV _⟩
 have sz:∀ S:ByteArray,S.size=S.data.toList.length:=fun S=>by show S.data.size=_; simp
 have z0:p.name.size≤10:=by rw [sz]; exact hn10
 have z8:S8.size=5 + p.name.size:=by rw [sz,sz p.name,a8,List.length_append]; rfl
 have z9:S9.size=S8.size + 2:=by rw [sz,sz S8,a9,List.length_append]; rfl
 have z13:S13.size=S9.size + J.size:=by rw [sz,sz S9,sz J,a13,List.length_append]
 have e13:S13.data.toList=pgW++(p.name.data.toList++([58,32]++nmJ p)):=by rw [a13,a9,a8,j2]; show _=[112,97,103,101,32]++_; simp
 rcases hw.sk with hz | ⟨g,wf,s1,s2⟩
 ·have hpg:pgW++pgL p=S13.data.toList:=by rw [e13]; unfold pgL pgB; rw [if_pos (by rw [hz]; rfl)]
  obtain ⟨A2,c2,e2⟩:=args_zero (by rw [hz]; rfl) ha
  simp only [Value.slice.injEq] at e2
  obtain ⟨rfl,rfl,rfl⟩:=e2
  have hNv:=fun H=>never_yes p.name A n c B d H
  have e1:p.skip.op=0:=by rw [hz]; rfl
  have e2:p.skip.k=0:=by rw [hz]; rfl
  have e3:p.skip.n=0:=by rw [hz]; rfl
  have e4:p.skip.s=⟨#[]⟩:=by rw [hz]; rfl
  have e5:p.skip.nm=⟨#[]⟩:=by rw [hz]; rfl
  rw [e1,e2,e3,e4,e5]
  refine fQ Tryz.func41 (c:=Tryz.f41.body.getD .skip) (N:=27) ?_
  intro hbx hbad Q hQ
  refine go1 7 [.own] [] ?_
  intro b1
  refine tQ 9 0 [.pu,.ld 0 0,.v (fun gh=>.string S8),.v (fun gh=>.string S9),.pu,.ld 0 1,.v (fun gh=>.string J),.v (fun gh=>.string S13),.pu] [] (trivial) ?_ ?_
  ·intro R hT hA hmono
   refine And.intro (t_p hT hA (fun gh=>.string S8) (fun gh w=>nX (op:=.add) (t:=9) (x:=(.const (.string ⟨#[112,97,103,101,32]⟩))) (y:=(.tmp 7)) (yt:=9) (va:=.string ⟨#[112,97,103,101,32]⟩) (vb:=.string p.name) (by kernel_rfl) (by kernel_rfl) (by kernel_rfl) (by kernel_rfl) (run_catZ (by show 5 + p.name.size≤_; omega) a8.symm))) ?_
   refine And.intro (t_p hT hA (fun gh=>.string S9) (fun gh w=>nX (op:=.add) (t:=9) (x:=(.tmp 8)) (y:=(.const (.string ⟨#[58,32]⟩))) (yt:=9) (va:=.string S8) (vb:=.string ⟨#[58,32]⟩) (by kernel_rfl) (by kernel_rfl) (by kernel_rfl) (by kernel_rfl) (run_catZ (by show S8.size + 2≤_; omega) a9.symm))) ?_
   refine And.intro (t_v hT hA hmono (k:=21) (args:=(fun gh=>#[.slice A n c,.string ⟨#[44,32]⟩])) (f:=fun gh=>.string J) (fun gh H sH fH lent=>hJ0 _ (hr.sees sH))) ?_
   refine And.intro (t_p hT hA (fun gh=>.string S13) (fun gh w=>nX (op:=.add) (t:=9) (x:=(.tmp 9)) (y:=(.tmp 12)) (yt:=9) (va:=.string S9) (vb:=.string J) (by kernel_rfl) (by kernel_rfl) (by kernel_rfl) (by kernel_rfl) (run_catZ (by omega) a13.symm))) ?_
   trivial
  rintro W2 S3 -
  refine go0 17 [.b 0 0,.cl 72 #[.agg #[.string p.name,.slice A n c,Vi 0,Vi 0,Vi 0,Ve,Ve,.slice B 0 d]] (.bool true)] [] ?_ (ho:=(And.intro (fun H sH=>hNv _) (trivial)))
  refine hQ.to [.string S13] (fun H sH=>?_)
  exact congrArg Value.string ((mkB_eq rfl).trans (congrArg mkB hpg.symm))
 ·have hpl:=zW _ p.skip 1 (Nat.le_refl _) wf
  have hPr:=fun H q1 q2=>print_any p.skip (.slice B m d) H q1 wf q2 s1 s2
  have hNv:=fun H=>never_no p.name p.skip A n c B m d H g
  have hpg:pgW++pgL p=S13.data.toList++([59,32]++prt p.skip 1):=by rw [e13]; unfold pgL pgB; rw [if_neg g]; simp
  obtain ⟨T,t1⟩:∃ T,(⟨(prt p.skip 1).toArray⟩:ByteArray)=T:=⟨_,rfl⟩
  have t2:T.data.toList=prt p.skip 1:=by rw [← t1]
  rw [t1] at hPr
  have t3:T.size≤6000:=by rw [sz,t2]; omega
  obtain ⟨S24,a24⟩:∃ S24:ByteArray,S24.data.toList=S13.data.toList++[59,32]:=⟨mkB _,oV _⟩
  have z24:S24.size=S13.size + 2:=by rw [sz,sz S13,a24,List.length_append]; rfl
  have a26:S24.data.toList++T.data.toList=(mkB (pgW++pgL p)).data.toList:=by rw [oV,hpg,a24,t2]; simp
  generalize mkB (pgW++pgL p)=S26 at *
  refine fQ Tryz.func41 (c:=Tryz.f41.body.getD .skip) (N:=27) ?_
  intro hbx hbad Q hQ
  refine go1 7 [.own] [] ?_
  intro b1
  refine tQ 9 0 [.pu,.ld 0 0,.v (fun gh=>.string S8),.v (fun gh=>.string S9),.pu,.ld 0 1,.v (fun gh=>.string J),.v (fun gh=>.string S13),.pu] [] (trivial) ?_ ?_
  ·intro R hT hA hmono
   refine And.intro (t_p hT hA (fun gh=>.string S8) (fun gh w=>nX (op:=.add) (t:=9) (x:=(.const (.string ⟨#[112,97,103,101,32]⟩))) (y:=(.tmp 7)) (yt:=9) (va:=.string ⟨#[112,97,103,101,32]⟩) (vb:=.string p.name) (by kernel_rfl) (by kernel_rfl) (by kernel_rfl) (by kernel_rfl) (run_catZ (by show 5 + p.name.size≤_; omega) a8.symm))) ?_
   refine And.intro (t_p hT hA (fun gh=>.string S9) (fun gh w=>nX (op:=.add) (t:=9) (x:=(.tmp 8)) (y:=(.const (.string ⟨#[58,32]⟩))) (yt:=9) (va:=.string S8) (vb:=.string ⟨#[58,32]⟩) (by kernel_rfl) (by kernel_rfl) (by kernel_rfl) (by kernel_rfl) (run_catZ (by show S8.size + 2≤_; omega) a9.symm))) ?_
   refine And.intro (t_v hT hA hmono (k:=21) (args:=(fun gh=>#[.slice A n c,.string ⟨#[44,32]⟩])) (f:=fun gh=>.string J) (fun gh H sH fH lent=>hJ0 _ (hr.sees sH))) ?_
   refine And.intro (t_p hT hA (fun gh=>.string S13) (fun gh w=>nX (op:=.add) (t:=9) (x:=(.tmp 9)) (y:=(.tmp 12)) (yt:=9) (va:=.string S9) (vb:=.string J) (by kernel_rfl) (by kernel_rfl) (by kernel_rfl) (by kernel_rfl) (run_catZ (by omega) a13.symm))) ?_
   trivial
  rintro W2 S3 -
  refine go0 26 [.b 0 0,.cl 72 #[.agg #[.string p.name,.slice A n c,Vi p.skip.op,Vi p.skip.k,Vi p.skip.n,.string p.skip.s,.string p.skip.nm,.slice B m d]] (.bool false),.b 0 2,.cl 11 #[.agg #[Vi p.skip.op,Vi p.skip.k,Vi p.skip.n,.string p.skip.s,.string p.skip.nm,.slice B m d]] (.tuple #[.string T,Vi 0])] [] ?_ (ho:=(And.intro (fun H sH=>hNv _) (And.intro (fun H sH=>hPr _ (ha.sees (S3.trans sH)) (lk.sees (S3.trans sH))) (trivial))))
  refine qQ (.string S24) (fun w=>nX (op:=.add) (t:=9) (x:=(.tmp 23)) (y:=(.const (.string ⟨#[59,32]⟩))) (yt:=9) (va:=.string S13) (vb:=.string ⟨#[59,32]⟩) (by kernel_rfl) (by kernel_rfl) (by kernel_rfl) (by kernel_rfl) (run_catZ (by show S13.size + 2≤_; omega) a24.symm)) ?_
  refine go0 1 [] [] ?_
  refine qQ (.string S26) (fun w=>nX (op:=.add) (t:=9) (x:=(.tmp 24)) (y:=(.tmp 25)) (yt:=9) (va:=.string S24) (vb:=.string T) (by kernel_rfl) (by kernel_rfl) (by kernel_rfl) (by kernel_rfl) (run_catZ (by omega) a26)) ?_
  refine go0 4 [] [] ?_
  refine hQ.to [.string S26] (fun H sH=>?_)
  exact rfl
theorem c_joinL (L:List (List UInt8)) (v:Value) (h:Vw) (hr:RS h 1 v (L.map fun x=>[Value.string (mkB x)])) (hl:L.length≤20) (hx:∀ x∈L,x.length≤10005) :
  C0 Tryz.prog 21 #[v,.string ⟨#[10]⟩] h (fun r _=>r=.string (mkB (Lib.join L [10]))):=by
 have e1:(L.map mkB).map (fun s=>s.data.toList)=L:=by rw [List.map_map]; exact List.map_id'' (fun x=>oV x) L
 have e2:eY (L.map mkB)=L.map fun x=>[Value.string (mkB x)]:=by show List.map _ (List.map mkB L)=_; rw [List.map_map]; rfl
 have hj:=join_len (M:=10005) L hx
 have hm:L.length * (10005 + 1)≤20 * (10005 + 1):=Nat.mul_le_mul_right _ hl
 have:=c_join (L.map mkB) ⟨#[10]⟩ v h (by rw [e2]; exact hr) (by rw [List.length_map]; omega) (by rw [e1]; show (Lib.join L [10]).length≤_; omega)
 rw [e1] at this
 exact this
set_option maxHeartbeats 4000000 in
theorem printForm_any (fm:Fm) (ρ:List Int) (lv:Nat→Nat) (A:Option Addr) (n c:Nat) (B:Option Addr) (m d:Nat) (h:Vw) (lk:Lk h) (hok:OkFm fm ρ lv) (hw:FmW fm) (hF:IsForm h (.slice A n c) (.slice B m d) fm) :
  C0 Tryz.prog 16 #[.agg #[.slice A n c,.slice B m d]] h (fun r _=>r=.tuple #[.string (mkB (Lib.join (lnF fm) [10])),.int .i64 0]):=by
 have he:=lnF_each hok hw
 obtain ⟨vs,A1,c1,e1,-,-,hr,hs,hl,hsl⟩:=uK hF.fields
 obtain ⟨us,ws,B1,d1,e2,-,hrp,hus,hws,hul,hwl⟩:=pgs_open hF.pages
 simp only [Value.slice.injEq] at e1 e2
 obtain ⟨rfl,e1,rfl⟩:=e1
 obtain ⟨rfl,e2,rfl⟩:=e2
 have few:=hok.fields.few
 have fewp:=hok.pages.few
 have hln:=lnF_len fm
 rw [← e1] at hr few
 rw [← e2] at hrp fewp
 have hCk:=fun H q=>shCheck_any fm ρ lv A n c B m d H hok q e1
 have hJn:=fun L v H q1 q2 q3=>c_joinL L v H q1 q2 q3
 have hfd:=fun k f=>lnF_fd (fm:=fm) (k:=k) (f:=f)
 have hpg:=fun k p=>lnF_pg (fm:=fm) (k:=k) (p:=p)
 have hFl:=fun (f:Fd) (q:f∈fm.fields) v H q1 q2=>fieldLine_any f v H (hok.fields.each f q).words q1 q2 (fun g=>⟨((hok.fields.each f q).wf g).2.1,hw.fd f q g⟩)
 have hPl:=fun (p:Pg) (q:p∈fm.pages) A n c B m d H q1 q2 q3=>pageLine_any p A n c B m d H q1 (hw.pg p q) q2 q3
 have hpa:=fun i p hp=>pg_at (i:=i) (p:=p) hus hws hp
 obtain ⟨L,hL⟩:∃ L,lnF fm=L:=⟨_,rfl⟩
 rw [hL] at he hln ⊢
 simp only [hL] at hfd hpg
 rw [← e1,← e2] at hln
 obtain ⟨nN,hNN⟩:∃ N,n + m=N:=⟨_,rfl⟩
 rw [hNN] at hln
 refine fQ Tryz.func16 (c:=Tryz.f16.body.getD .skip) (N:=43) ?_
 intro hbx hbad Q hQ
 refine oQ 9 1 ?_
 refine go1 39 [.own,.b 0 0,.cl 36 #[.agg #[.slice A n c,.slice B m d]] (Vi 0),.b 0 0] [] ?_ (ho:=(And.intro (fun H sH=>hCk _ (hF.sees sH)) (trivial)))
 intro b1
 refine mQ [0,1,0,1,1,1] [.block 0,.seq [1,1,1,1]] (fun (k:Nat) X=>∃ (W2:Vw) (v:Value),X W2 [(1,Vp b1),(16,.slice A n c),(17,Vi (n:Int)),(18,Vi (k:Int)),(5,v)] [.box b1 [.slice A n c,.slice B m d],.row v 9 1 ((L.take k).map fun x=>[Value.string (mkB x)])] []∧Sees h W2∧(k≤n)) (fun k=>n - k) (0) (fun X q=>⟨h,(Vz),q _ _ _ _ ⟨rfl,by kernel_rfl⟩,Sees.refl _,Nat.zero_le _⟩) ?_
 rintro k a w ⟨W2,v,hJ,S3,hk⟩; refine pQ hJ ?_; clear hJ a w
 refine go0 6 [] [] ?_
 rcases (by omega:k < n∨k=n) with hlt | hke
 ·obtain ⟨f,hfk⟩:∃ f,fm.fields[k]?=some f:=⟨_,List.getElem?_eq_getElem (by omega)⟩
  obtain ⟨u,hu⟩:∃ u,vs[k]?=some u:=⟨_,List.getElem?_eq_getElem (by omega)⟩
  have hfm:=List.mem_of_getElem? hfk
  have hgu:=AllSrc.get hs hfk hu
  obtain ⟨Au,nu,cu,rfl⟩:=hgu.slice
  have hrow:=rK hfk hu
  have hsn:=jY _ k _ (hfd k f hfk)
  have hlk:(L.take k).length=k:=by rw [List.length_take]; omega
  refine wQ (t:=decide ((k:Int) < (n:Int))) (decide_eq_true (by omega)) ?_
  refine go0 6 [] [] ?_
  obtain ⟨b4,o5,rfl,-,c6⟩:=RS.row hr (hrow)
  refine gQ (c6.sees S3) ?_
  refine gov2 11 [.ix b4 o5 n c k,.f 0 0,.own,.b 0 0,.b 0 0,.cl 40 #[.agg #[.string f.name,Vi f.kind,Vi f.ty,Vi f.src.op,Vi f.src.k,Vi f.src.n,.string f.src.s,.string f.src.nm,.slice Au nu cu]] (.string (mkB (fdL f))),.fix] [] ?_ (ho:=(And.intro (by first | omega | (simp; omega)) (And.intro (fun H sH=>hFl f hfm _ _ (lk.sees (S3.trans sH)) (hgu.sees (S3.trans sH))) (trivial))))
  intro b7 b8 W9 S10
  refine goa0 9 [.ap 2 0 ((L.take k).map fun x=>[Value.string (mkB x)]) [[.string (mkB (fdL f))]]] [(27,Vi (IntKind.i64.wrap ((k:Int) + 1)),Vi ((k:Int) + 1))] ?_ (ho:=(And.intro (by simp; omega) (trivial))) (hc:=(And.intro (jJ (by omega) (by omega)) (trivial)))
  intro v26 W11 S12
  refine kQ [(1,Vp b1),(16,.slice (some ⟨b4,o5,none⟩) n c),(17,Vi (n:Int)),(5,.slice (sA v26) (sN v26) (sC v26)),(18,Vi ((k:Int) + 1))] [.box b1 [.slice (some ⟨b4,o5,none⟩) n c,.slice B m d],.row (.slice (sA v26) (sN v26) (sC v26)) 9 1 (((L.take k).map fun x=>[Value.string (mkB x)])++[[.string (mkB (fdL f))]])] [] ?_
  exact vQ (k + 1) (fun X q=>⟨W11,.slice (sA v26) (sN v26) (sC v26),q _ _ _ _ (qX (by rw [hsn,List.map_append]; try rfl)),(S3.trans (S10.trans S12)),by omega⟩) (by omega)
 ·skip
  replace hke:=hke.symm
  subst hke
  refine iQ (t:=decide ((n:Int) < (n:Int))) (decide_eq_false (by omega)) ?_
  refine go0 2 [] [] ?_
  refine lQ ?_
  refine go0 12 [.b 0 1] [] ?_
  refine mQ [0,1,0,1,1,1,1] [.block 2,.seq [1,1,1,1,1]] (fun (j:Nat) X=>∃ (W13:Vw) (v2:Value),X W13 [(29,.slice B m d),(30,Vi (m:Int)),(31,Vi (j:Int)),(5,v2)] [.box b1 [.slice A n c,.slice B m d],.row v2 9 1 ((L.take (n + j)).map fun x=>[Value.string (mkB x)])] []∧Sees W2 W13∧(j≤m)) (fun j=>m - j) (0) (fun X q=>⟨W2,v,q _ _ _ _ ⟨rfl,by kernel_rfl⟩,Sees.refl _,Nat.zero_le _⟩) ?_
  rintro j a w ⟨W13,v2,hJ,S14,hj⟩; refine pQ hJ ?_; clear hJ a w
  refine go0 6 [] [] ?_
  rcases (by omega:j < m∨j=m) with hlt | hje
  ·obtain ⟨p,hpk⟩:∃ p,fm.pages[j]?=some p:=⟨_,List.getElem?_eq_getElem (by omega)⟩
   have hpm:=List.mem_of_getElem? hpk
   obtain ⟨Au,cu,Bu,mu,du,hrow,hrs,hra⟩:=hpa j p hpk
   have hsn:=jY _ (n + j) _ (hpg (n + j) p (by omega) (by rw [← e1,Nat.add_sub_cancel_left]; exact hpk))
   have hlk:(L.take (n + j)).length=n + j:=by rw [List.length_take]; omega
   refine wQ (t:=decide ((j:Int) < (m:Int))) (decide_eq_true (by omega)) ?_
   refine go0 6 [] [] ?_
   obtain ⟨b15,o16,rfl,-,c17⟩:=RS.row hrp (hrow)
   refine gQ (c17.sees (S3.trans S14)) ?_
   refine gov2 11 [.ix b15 o16 m d j,.f 0 0,.own,.b 0 0,.b 0 0,.cl 41 #[.agg #[.string p.name,.slice Au p.fields.length cu,Vi p.skip.op,Vi p.skip.k,Vi p.skip.n,.string p.skip.s,.string p.skip.nm,.slice Bu mu du]] (.string (mkB (pgW++pgL p))),.fix] [] ?_ (ho:=(And.intro (by first | omega | (simp; omega)) (And.intro (fun H sH=>hPl p hpm _ _ _ _ _ _ _ (lk.sees (S3.trans (S14.trans sH))) (hrs.sees (S3.trans (S14.trans sH))) (hra.sees (S3.trans (S14.trans sH)))) (trivial))))
   intro b18 b19 W20 S21
   refine goa0 9 [.ap 2 0 ((L.take (n + j)).map fun x=>[Value.string (mkB x)]) [[.string (mkB (pgW++pgL p))]]] [(40,Vi (IntKind.i64.wrap ((j:Int) + 1)),Vi ((j:Int) + 1))] ?_ (ho:=(And.intro (by simp; omega) (trivial))) (hc:=(And.intro (jJ (by omega) (by omega)) (trivial)))
   intro v39 W22 S23
   refine kQ [(29,.slice (some ⟨b15,o16,none⟩) m d),(30,Vi (m:Int)),(5,.slice (sA v39) (sN v39) (sC v39)),(31,Vi ((j:Int) + 1))] [.box b1 [.slice A n c,.slice (some ⟨b15,o16,none⟩) m d],.row (.slice (sA v39) (sN v39) (sC v39)) 9 1 (((L.take (n + j)).map fun x=>[Value.string (mkB x)])++[[.string (mkB (pgW++pgL p))]])] [] ?_
   exact vQ (j + 1) (fun X q=>⟨W22,.slice (sA v39) (sN v39) (sC v39),q _ _ _ _ (qX (by rw [← Nat.add_assoc,hsn,List.map_append]; try rfl)),(S14.trans (S21.trans S23)),by omega⟩) (by omega)
  ·skip
   have hLe:L.take (n + j)=L:=List.take_of_length_le (by omega)
   rw [hLe]
   refine jQ 1 (v:=v2) (e:=9) (kk:=1) (l:=(L.map fun x=>[Value.string (mkB x)])) ?_; intro Ax cx hE_v2 hc_v2 hm_v2
   rw [show (L.map fun x=>[Value.string (mkB x)]).length=nN from by first | omega | (simp; done) | (simp; omega)] at hE_v2 hc_v2
   rw [hE_v2]
   refine iQ (t:=decide ((j:Int) < (m:Int))) (decide_eq_false (by omega)) ?_
   refine go0 2 [] [] ?_
   refine lQ ?_
   refine go0 5 [] [] ?_
   refine g_freeze 1 (v:=.slice Ax nN cx) (e:=9) (kk:=1) (l:=(L.map fun x=>[Value.string (mkB x)])) ?_; intro W24 S25 fr
   refine go0 6 [.cl 21 #[.slice Ax nN cx,.string ⟨#[10]⟩] (.string (mkB (Lib.join L [10])))] [] ?_ (ho:=(And.intro (fun H sH=>hJn L _ _ (fr.sees sH) (by omega) (fun x hx=>(he x hx).1)) (trivial)))
   refine hQ.to [.string (mkB (Lib.join L [10])),Vi 0] (fun H sH=>?_)
   exact rfl
end Go.Proofs.YthplkompdehjlaaGreatDoor
namespace Go.Proofs.YthplkompdehjlaaGreatDoor
open Go.RowKit
set_option linter.unusedVariables false
def rhoF (need:List (List Nat)):Nat→Nat→Int
 | 0,_=>0
 | t + 1,i=>(need.getD i []).foldl (fun a k=>max a (rhoF need t k + 1)) 0
theorem foldl_same {f g:Int→Nat→Int}:∀ (l:List Nat) (a:Int),(∀ a,∀ k∈l,f a k=g a k)→l.foldl f a=l.foldl g a
 | [],a,h=>rfl
 | k :: l,a,h=>by
  rw [List.foldl_cons,List.foldl_cons,h a k (by simp)]
  exact foldl_same l _ fun a k' hk'=>h a k' (by simp [hk'])
theorem rho_stable {need:List (List Nat)} {lv:Nat→Nat} (low:∀ i,i < need.length→∀ k∈need.getD i [],k < need.length∧lv k < lv i):∀ t s i,i < need.length→lv i < t→lv i < s→rhoF need t i=rhoF need s i
 | 0,s,i,_,h,_=>absurd h (Nat.not_lt_zero _)
 | t + 1,0,i,_,_,h=>absurd h (Nat.not_lt_zero _)
 | t + 1,s + 1,i,hi,h1,h2=>by
  unfold rhoF
  refine foldl_same _ _ fun a k hk=>?_
  obtain ⟨k1,k2⟩:=low i hi k hk
  rw [rho_stable low t s k k1 (by omega) (by omega)]
def rhoL (need:List (List Nat)):List Int:=(List.range need.length).map (rhoF need need.length)
theorem rho_get {need:List (List Nat)} {i:Nat} (h:i < need.length):(rhoL need).getD i 0=rhoF need need.length i:=by
 unfold rhoL
 rw [List.getD_eq_getElem?_getD,List.getElem?_map,List.getElem?_range h]; rfl
theorem ranked_ex {need:List (List Nat)} {lv:Nat→Nat} (low:∀ i,i < need.length→∀ k∈need.getD i [],k < need.length∧lv k < lv i) (few:∀ i,i < need.length→lv i < need.length):Ranked need (rhoL need) lv:=by
 refine ⟨by unfold rhoL; rw [List.length_map,List.length_range],fun i hi=>?_,low,few⟩
 rw [rho_get hi]
 obtain ⟨m,hm⟩:∃ m,need.length=m + 1:=⟨need.length - 1,by omega⟩
 have hf:=few i hi
 show rhoF need need.length i=_
 have e:rhoF need need.length i=(need.getD i []).foldl (fun a k=>max a (rhoF need m k + 1)) 0:=by rw [hm]; rfl
 rw [e]
 refine foldl_same _ _ fun a k hk=>?_
 obtain ⟨k1,k2⟩:=low i hi k hk
 rw [rho_get k1,rho_stable low m need.length k k1 (by omega) (by omega)]
theorem refs_zE:iX zE=[]:=by
 rw [refsE_eq,if_neg (show ¬ zE.op=2 by decide)]
 show []++jX []=[]
 simp [jX]
theorem src_refs {l:List RawD} {k:Nat} {s:ByteArray} (h:s∈iX (srcE l (fJ l k).1 (aJ l (fJ l k).2) (bJ l (fJ l k).2)).1):∃ j,j < k∧s=fname j:=by
 have key:(∃ f∈(fJ l k).1,s=f.name)→∃ j,j < k∧s=fname j:=fun ⟨f,hf,e⟩=>by
  obtain ⟨i,h1,h2,-⟩:=fldT_each l k f hf
  exact ⟨i,h1,by rw [e,h2]⟩
 unfold srcE at h
 split at h
 ·exact key (refs_gen l _ _ _ s h)
 ·split at h
  ·exact key (refs_gen l _ _ _ s h)
  ·simp only [refs_zE] at h; cases h
theorem fldT_get (l:List RawD):∀ k j,j < k→∃ f,(fJ l k).1[j]?=some f∧f.name=fname j∧∀ s∈iX f.src,∃ j',j' < j∧s=fname j'
 | 0,j,h=>absurd h (Nat.not_lt_zero _)
 | k + 1,j,h=>by
  have hl:=xK l k
  show ∃ f,((fJ l k).1++[_])[j]?=some f∧_
  by_cases e:j=k
  ·subst e
   refine ⟨_,by rw [List.getElem?_append_right (by omega),hl,Nat.sub_self]; rfl,rfl,fun s hs=>src_refs hs⟩
  ·rw [List.getElem?_append_left (by omega)]
   exact fldT_get l k j (by omega)
def lvF (l:List RawD) (i:Nat):Nat:=if cJ (aJ l 0).k 2=0 then iJ l - 1 - i else i
theorem form_get (l:List RawD) {i:Nat} (hi:i < iJ l):∃ f,(yK l).fields[i]?=some f∧f.name=fname (lvF l i)∧∀ s∈iX f.src,∃ j',j' < lvF l i∧s=fname j':=by
 show ∃ f,(formF l)[i]?=some f∧_
 have hl:=xK l (iJ l)
 unfold formF lvF
 split
 ·rw [List.getElem?_reverse (by omega),hl]
  exact fldT_get l (iJ l) _ (by omega)
 ·exact fldT_get l (iJ l) i hi
theorem lvF_lt (l:List RawD) {i:Nat} (hi:i < iJ l):lvF l i < iJ l:=by unfold lvF; split <;> omega
theorem lvF_sur (l:List RawD) {j:Nat} (hj:j < iJ l):∃ i,i < iJ l∧lvF l i=j:=by
 unfold lvF
 split
 ·exact ⟨iJ l - 1 - j,by omega,by omega⟩
 ·exact ⟨j,hj,rfl⟩
theorem form_low (l:List RawD):∀ i,i < (vV (yK l).fields).length→∀ k∈(vV (yK l).fields).getD i [],k < (vV (yK l).fields).length∧lvF l k < lvF l i:=by
 have hn:(vV (yK l).fields).length=iJ l:=by unfold vV; rw [List.length_map,form_len]
 rw [hn]
 intro i hi k hk
 obtain ⟨f,hf,hname,hrefs⟩:=form_get l hi
 have hg:(vV (yK l).fields).getD i []=needE (yK l).fields f:=by
  unfold vV
  rw [List.getD_eq_getElem?_getD,List.getElem?_map,hf]; rfl
 rw [hg] at hk
 unfold needE at hk
 split at hk
 ·cases hk
 ·obtain ⟨s,hs,rfl⟩:=List.mem_map.1 hk
  obtain ⟨j,hj,rfl⟩:=hrefs s (mem_namesE.1 hs)
  obtain ⟨i',hi',e⟩:=lvF_sur l (j:=j) (by have:=lvF_lt l hi; omega)
  obtain ⟨g,hgi,hgn,-⟩:=form_get l hi'
  have hfd:=findF_at (form_nodup l) hgi
  rw [hgn,e] at hfd
  have hp:plc (yK l).fields (fname j)=i':=by unfold plc; rw [hfd]; rfl
  rw [hp]
  exact ⟨hi',by omega⟩
theorem form_ranked (l:List RawD):Ranked (vV (yK l).fields) (rhoL (vV (yK l).fields)) (lvF l) :=
 ranked_ex (form_low l) fun i hi=>by
  have hn:(vV (yK l).fields).length=iJ l:=by unfold vV; rw [List.length_map,form_len]
  rw [hn] at hi ⊢
  exact lvF_lt l hi
end Go.Proofs.YthplkompdehjlaaGreatDoor
namespace Go.Proofs.YthplkompdehjlaaGreatDoor
open Go.RowKit
set_option linter.unusedVariables false
theorem smallX_wf:WfE smallX:=by
 refine WfE.mk' (.inr (.inr ⟨(by decide:(3:Int)≤8),(by decide:(8:Int)≤18),rfl,rfl,rfl,rfl,rfl⟩)) (WfL.all fun y hy=>?_)
 have hy:y∈[refE ⟨#[97]⟩,Ex.mk 1 1 1 ⟨#[]⟩ ⟨#[]⟩ []]:=hy
 rcases List.mem_cons.1 hy with rfl | hy
 ·exact (wf_leaf (refE_ok ⟨by decide,by decide,⟨_,rfl,by decide⟩,by decide,by decide⟩) rfl).1
 ·rw [List.mem_singleton.1 hy]
  exact (wf_leaf (x:=.mk 1 1 1 ⟨#[]⟩ ⟨#[]⟩ []) (.inl ⟨rfl,.inl ⟨rfl,(by unfold Lim; decide:Lim 1),rfl⟩,fun _=>(by decide:(0:Int)≤1),rfl,rfl⟩) rfl).1
theorem smallB_wf:WfE smallB:=(wf_leaf (refE_ok (s:=⟨#[98]⟩) ⟨by decide,by decide,⟨_,rfl,by decide⟩,by decide,by decide⟩) rfl).1
theorem small_ok:OkFs smallF.fields:=by
 refine ⟨fun f hf=>?_,by decide,by decide⟩
 have hf:f∈[(⟨⟨#[98]⟩,2,1,smallX⟩:Fd),⟨⟨#[97]⟩,1,1,zE⟩,⟨⟨#[99]⟩,3,3,smallB⟩]:=hf
 rcases List.mem_cons.1 hf with rfl | hf
 ·exact ⟨⟨by decide,by decide,⟨_,rfl,by decide⟩,by decide,by decide⟩,by decide,by decide,by decide,by decide,fun h=>absurd h (show ¬ (2:Int)=1 by decide),fun _=>⟨smallX_wf,by decide,by decide⟩,fun _=>by decide,fun h=>absurd h (show ¬ (2:Int)=3 by decide)⟩
 ·rcases List.mem_cons.1 hf with rfl | hf
  ·exact ⟨⟨by decide,by decide,⟨_,rfl,by decide⟩,by decide,by decide⟩,by decide,by decide,by decide,by decide,fun _=>rfl,fun h=>absurd rfl h,fun h=>absurd h (show ¬ (1:Int)=2 by decide),fun h=>absurd h (show ¬ (1:Int)=3 by decide)⟩
  ·rw [List.mem_singleton.1 hf]
   exact ⟨⟨by decide,by decide,⟨_,rfl,by decide⟩,by decide,by decide⟩,by decide,by decide,by decide,by decide,fun h=>absurd h (show ¬ (3:Int)=1 by decide),fun _=>⟨smallB_wf,by decide,by decide⟩,fun h=>absurd h (show ¬ (3:Int)=2 by decide),fun _=>⟨1,by decide,by decide,by decide⟩⟩
theorem names_one {x:Ex} {s:ByteArray} (h:iX x=[s]):sV x=[s]:=by
 unfold sV namesB
 rw [h]
 have e:dd ([s].map fun s:ByteArray=>s.data.toList)=[s.data.toList]:=by simp [dd]
 rw [e,List.mergeSort_singleton]
 simp
theorem small_needs:vV smallF.fields=[[1],[],[0]]:=by
 have e1:sV smallX=[⟨#[97]⟩]:=names_one (by decide)
 have e2:sV smallB=[⟨#[98]⟩]:=names_one (by decide)
 show [needE smallF.fields ⟨⟨#[98]⟩,2,1,smallX⟩,needE smallF.fields ⟨⟨#[97]⟩,1,1,zE⟩,needE smallF.fields ⟨⟨#[99]⟩,3,3,smallB⟩]=_
 unfold needE
 rw [if_neg (by decide),if_pos rfl,if_neg (by decide)]
 have p1:plc smallF.fields ⟨#[97]⟩=1:=by
  unfold plc
  rw [show (⟨#[97]⟩:ByteArray)=(⟨⟨#[97]⟩,1,1,zE⟩:Fd).name from rfl,findF_at small_ok.nodup (i:=1) rfl]; rfl
 have p2:plc smallF.fields ⟨#[98]⟩=0:=by
  unfold plc
  rw [show (⟨#[98]⟩:ByteArray)=(⟨⟨#[98]⟩,2,1,smallX⟩:Fd).name from rfl,findF_at small_ok.nodup (i:=0) rfl]; rfl
 simp only [e1,e2,List.map_cons,List.map_nil,p1,p2]
theorem small_ranked:Ranked (vV smallF.fields) [1,0,2] (fun i=>[1,0,2].getD i 0):=by
 rw [small_needs]
 exact ranked_ex (need:=[[1],[],[0]]) (lv:=fun i=>[1,0,2].getD i 0) (by decide) (by decide)
theorem small_okG:OkGs smallF.fields smallF.pages:=by
 have hm:∀ p∈smallF.pages,p=⟨⟨#[112,49]⟩,[⟨#[97]⟩],zE⟩∨p=⟨⟨#[112,50]⟩,[⟨#[99]⟩],zE⟩:=fun p hp=>by
  have hp:p∈[(⟨⟨#[112,49]⟩,[⟨#[97]⟩],zE⟩:Pg),⟨⟨#[112,50]⟩,[⟨#[99]⟩],zE⟩]:=hp
  rcases List.mem_cons.1 hp with h | h
  ·exact .inl h
  ·exact .inr (List.mem_singleton.1 h)
 have p1:vK smallF.fields ⟨#[97]⟩=(1:Nat):=findF_at small_ok.nodup (i:=1) (f:=⟨⟨#[97]⟩,1,1,zE⟩) rfl
 have p2:vK smallF.fields ⟨#[99]⟩=(2:Nat):=findF_at small_ok.nodup (i:=2) (f:=⟨⟨#[99]⟩,3,3,smallB⟩) rfl
 refine ⟨by decide,by decide,fun p h=>?_,by decide,fun p h=>?_,fun p h s hs=>?_,by decide,fun p h=>?_⟩
 ·rcases hm p h with rfl | rfl
  ·exact ⟨by decide,by decide,⟨_,rfl,by decide⟩,by decide,by decide⟩
  ·exact ⟨by decide,by decide,⟨_,rfl,by decide⟩,by decide,by decide⟩
 ·rcases hm p h with rfl | rfl <;> decide
 ·rcases hm p h with rfl | rfl
  ·rw [List.mem_singleton.1 hs,p1]; omega
  ·rw [List.mem_singleton.1 hs,p2]; omega
 ·rcases hm p h with rfl | rfl <;> exact .inl rfl
end Go.Proofs.YthplkompdehjlaaGreatDoor
namespace Go.Proofs.YthplkompdehjlaaGreatDoor
open Go.RowKit
set_option linter.unusedVariables false
theorem mem_pgNames {fs:List Fd} {n k:Nat} {s:ByteArray}:s∈nW fs n k↔∃ (i:Nat) (f:Fd),fs[i]?=some f∧i % (n + 1)=k∧f.name=s:=by
 unfold nW
 rw [List.mem_map]
 constructor
 ·rintro ⟨⟨f,i⟩,h,rfl⟩
  obtain ⟨h1,h2⟩:=List.mem_filter.1 h
  exact ⟨i,f,List.mem_zipIdx_iff_getElem?.1 h1,beq_iff_eq.1 h2,rfl⟩
 ·rintro ⟨i,f,h1,h2,rfl⟩
  exact ⟨(f,i),List.mem_filter.2 ⟨List.mem_zipIdx_iff_getElem?.2 h1,beq_iff_eq.2 h2⟩,rfl⟩
theorem pgNames_nodup {fs:List Fd} {n k:Nat} (h:(fs.map (fun f:Fd=>f.name)).Nodup):(nW fs n k).Nodup:=by
 unfold nW
 have e:fs.zipIdx.map (fun p=>p.1.name)=fs.map (fun f:Fd=>f.name):=by
  have:fs.zipIdx.map (fun p=>p.1)=fs:=List.zipIdx_map_fst 0 fs
  calc fs.zipIdx.map (fun p=>p.1.name)=(fs.zipIdx.map (fun p=>p.1)).map (fun f:Fd=>f.name):=by rw [List.map_map]; rfl
   _=_:=by rw [this]
 refine List.Sublist.nodup ?_ (e ▸ h)
 exact List.Sublist.map _ List.filter_sublist
theorem pgT_once {l:List RawD} {fs:List Fd} {n n0:Nat} (hd:(fs.map (fun f:Fd=>f.name)).Nodup):∀ k,((mJ l fs n n0 k).1.flatMap (fun p:Pg=>p.fields)).Nodup∧∀ s∈(mJ l fs n n0 k).1.flatMap (fun p:Pg=>p.fields),∃ (i:Nat) (f:Fd),fs[i]?=some f∧i % (n + 1) < k∧f.name=s
 | 0=>⟨List.nodup_nil,fun s hs=>by cases hs⟩
 | k + 1=>by
  obtain ⟨h1,h2⟩:=pgT_once (l:=l) (n:=n) (n0:=n0) hd k
  have e:(mJ l fs n n0 (k + 1)).1.flatMap (fun p:Pg=>p.fields)=(mJ l fs n n0 k).1.flatMap (fun p:Pg=>p.fields)++nW fs n k:=by
   show ((mJ l fs n n0 k).1++[_]).flatMap _=_
   rw [List.flatMap_append]; simp
  rw [e]
  refine ⟨List.nodup_append.2 ⟨h1,pgNames_nodup hd,fun a ha b hb q=>?_⟩,fun s hs=>?_⟩
  ·obtain ⟨i,f,f1,f2,f3⟩:=h2 a ha
   obtain ⟨j,g,g1,g2,g3⟩:=mem_pgNames.1 hb
   have q1:(fs.map (fun f:Fd=>f.name))[i]?=some a:=by rw [List.getElem?_map,f1]; simp [f3]
   have q2:(fs.map (fun f:Fd=>f.name))[j]?=some a:=by rw [List.getElem?_map,g1]; simp [g3,q]
   have:=(List.getElem?_inj (List.getElem?_eq_some_iff.1 q1).1 hd).1 (q1.trans q2.symm)
   subst this
   omega
  ·rcases List.mem_append.1 hs with hs | hs
   ·obtain ⟨i,f,f1,f2,f3⟩:=h2 s hs
    exact ⟨i,f,f1,by omega,f3⟩
   ·obtain ⟨j,g,g1,g2,g3⟩:=mem_pgNames.1 hs
    exact ⟨j,g,g1,by omega,g3⟩
theorem pgT_names (l:List RawD) (fs:List Fd) (n n0:Nat):∀ k,(mJ l fs n n0 k).1.map (fun p:Pg=>p.name)=(List.range k).map mW
 | 0=>rfl
 | k + 1=>by
  show ((mJ l fs n n0 k).1++[_]).map (fun p:Pg=>p.name)=_
  rw [List.map_append,pgT_names l fs n n0 k,List.range_succ,List.map_append]; rfl
theorem pgT_each (l:List RawD) (fs:List Fd) (n n0:Nat):∀ k,∀ p∈(mJ l fs n n0 k).1,∃ i m r,i < k∧p=⟨mW i,nW fs n i,(wX l fs r m).1⟩
 | 0,p,h=>by cases h
 | k + 1,p,h=>by
  have h:p∈(mJ l fs n n0 k).1++[_]:=h
  rcases List.mem_append.1 h with h | h
  ·obtain ⟨i,m,r,h1,h2⟩:=pgT_each l fs n n0 k p h
   exact ⟨i,m,r,by omega,h2⟩
  ·exact ⟨k,_,_,by omega,List.mem_singleton.1 h⟩
theorem pgName_ok {k:Nat} (h:k < 5):oJ (mW k).data.toList:=by
 match k,h with
 | 0,_=>exact ⟨by decide,by decide,⟨_,rfl,by decide⟩,by decide,by decide⟩
 | 1,_=>exact ⟨by decide,by decide,⟨_,rfl,by decide⟩,by decide,by decide⟩
 | 2,_=>exact ⟨by decide,by decide,⟨_,rfl,by decide⟩,by decide,by decide⟩
 | 3,_=>exact ⟨by decide,by decide,⟨_,rfl,by decide⟩,by decide,by decide⟩
 | 4,_=>exact ⟨by decide,by decide,⟨_,rfl,by decide⟩,by decide,by decide⟩
theorem pgName_inj {i j:Nat} (hi:i < 5) (hj:j < 5) (h:mW i=mW j):i=j:=by
 have key:∀ i,i < 5→∀ j,j < 5→(mW i).data=(mW j).data→i=j:=by decide
 exact key i hi j hj (congrArg ByteArray.data h)
theorem form_okGs (l:List RawD):OkGs (yK l).fields (yK l).pages:=by
 have hn:=rV l
 have hp:=nPages_le l
 have hpl:=form_pages l
 have hT:((fJ l (iJ l)).1.map (fun f:Fd=>f.name)).Nodup:=by
  rw [fldT_names]
  refine List.pairwise_map.2 (List.nodup_range.imp_of_mem ?_)
  intro a b ha hb hab e
  exact hab (fname_inj (by have:=List.mem_range.1 ha; omega) (by have:=List.mem_range.1 hb; omega) e)
 have he:∀ p∈(yK l).pages,∃ i m r,i < eJ l∧p=⟨mW i,nW (fJ l (iJ l)).1 (eJ l) i,(wX l (fJ l (iJ l)).1 r m).1⟩:=pgT_each _ _ _ _ _
 have hok:=form_okFs l _ (form_nodup l) (fun f=>Iff.rfl) (by rw [form_len]; omega)
 refine ⟨by omega,by omega,fun p h=>?_,?_,fun p h=>?_,fun p h s hs=>?_,(pgT_once hT _).1,fun p h=>?_⟩
 ·obtain ⟨i,m,r,hi,rfl⟩:=he p h
  exact pgName_ok (by omega)
 ·show ((mJ l _ _ _ _).1.map (fun p:Pg=>p.name)).Nodup
  rw [pgT_names]
  refine List.pairwise_map.2 (List.nodup_range.imp_of_mem ?_)
  intro a b ha hb hab e
  exact hab (pgName_inj (by have:=List.mem_range.1 ha; omega) (by have:=List.mem_range.1 hb; omega) e)
 ·obtain ⟨i,m,r,hi,rfl⟩:=he p h
  have:=pgNames_len (fJ l (iJ l)).1 (eJ l) i
  rw [xK] at this
  show (nW _ _ _).length≤100
  omega
 ·obtain ⟨i,m,r,hi,rfl⟩:=he p h
  obtain ⟨j,f,f1,-,rfl⟩:=mem_pgNames.1 hs
  obtain ⟨k,hk⟩:=List.mem_iff_getElem?.1 (form_mem.2 (List.mem_of_getElem? f1))
  rw [findF_at (form_nodup l) hk]
  omega
 ·obtain ⟨i,m,r,hi,rfl⟩:=he p h
  show (wX l _ r m).1=zE∨_
  unfold wX
  split
  ·right
   have hnm:∀ f∈(fJ l (iJ l)).1,oJ f.name.data.toList:=fun f hf=>(hok.each f (form_mem.2 hf)).name
   obtain ⟨w1,w2,w3⟩:=genE_ok l _ hnm 1 2 m (by omega) (by omega)
   have ht:=ty_gen (fs:=(fJ l (iJ l)).1) (g:=tyF (yK l).fields) (fun f hf=>tyF_mem (form_nodup l) f (form_mem.2 hf)) l 1 2 m (by omega) (by omega)
   show (gJ l _ 1 2 m).1.op≠0∧_
   generalize (gJ l (fJ l (iJ l)).1 1 2 m).1=x at *
   have w2:(szE x).1≤4:=w2
   refine ⟨?_,w1,by show (szE x).1 < 1000000; omega,?_⟩
   ·rcases w1.top with t | t | t <;> omega
   ·have cx:chkE x=0:=by unfold chkE; rw [if_neg (by omega),if_neg (by omega)]
    have ho:ofE (yK l).fields x=(2,0):=by unfold ofE; rw [if_pos cx,ht]
    show fitsE (yK l).fields x 2=0
    unfold fitsE
    rw [ho]; rfl
  ·left; rfl
end Go.Proofs.YthplkompdehjlaaGreatDoor
namespace Go.Proofs.YthplkompdehjlaaGreatDoor
open Go.RowKit
set_option linter.unusedVariables false
structure FmR (fm:Fm):Prop where
 fd:∀ f∈fm.fields,∃ fs,OkF fs f
 dp:∀ f∈fm.fields,f.kind≠1→(szE f.src).2≤12
 pg:∀ p∈fm.pages,PgW p
theorem lnF_eachR {fm:Fm} (hw:FmR fm):∀ x∈lnF fm,x.length≤10005∧(10:UInt8) ∉ x:=fun x hx=>by
 rcases List.mem_append.1 hx with q | q
 ·obtain ⟨f,hf,rfl⟩:=List.mem_map.1 q
  obtain ⟨fs,hF⟩:=hw.fd f hf
  have h1:=fdL_len hF.words fun g=>(hF.wf g).2.1
  exact ⟨by omega,(fdL_prn hF.words).no10⟩
 ·obtain ⟨p,hp,rfl⟩:=List.mem_map.1 q
  have h1:=pgL_len (hw.pg p hp)
  refine ⟨?_,(pgW_prn.app (pgL_prn (hw.pg p hp))).no10⟩
  rw [List.length_append]
  have:pgW.length=5:=rfl
  omega
theorem c_linesL (L:List (List UInt8)) (he:∀ x∈L,x.length≤10005∧(10:UInt8) ∉ x) (n1:1≤L.length) (hN:L.length≤20) (H:Vw) (q:Lk H) :
  C0 Tryz.prog 19 #[.string (mkB (Lib.join L [10])),.string ⟨#[10]⟩] H (fun r h'=>∃ b,r=.slice (some ⟨b,0,none⟩) L.length L.length∧RS h' 1 (.slice (some ⟨b,0,none⟩) L.length L.length) (L.map fun x=>[Value.string (mkB x)])):=by
 have hj:=join_len (M:=10005) L fun x hx=>(he x hx).1
 have hm:L.length * (10005 + 1)≤20 * (10005 + 1):=Nat.mul_le_mul_right _ hN
 refine (c_splitC (mkB (Lib.join L [10])) ⟨#[10]⟩ _ H q (by rw [pV]; omega) (by decide) (split_join rfl _ (fun e=>by rw [e] at n1; simp at n1) fun x hx=>(he x hx).2)).mono fun v h' _ k=>?_
 obtain ⟨b,e,c⟩:=k
 have ef:(L.map fun x=>Value.string (mkB x))=((L.map fun x=>[Value.string (mkB x)]):List (List Value)).flatten:=by
  rw [← List.flatMap_def,← List.map_eq_flatMap]
 rw [ef] at c
 have hr:=mX (k:=1) _ (fun r hr=>by obtain ⟨s,-,rfl⟩:=List.mem_map.1 hr; rfl) (by rw [List.length_map]; unfold maxLen; omega) c
 rw [List.length_map] at hr
 exact ⟨b,e,hr⟩
set_option maxHeartbeats 4000000 in
theorem read_all6 (fm:Fm) (c0:Int) (h:Vw) (lk:Lk h) (hw:FmR fm) (n1:1≤fm.fields.length) (hN20:fm.fields.length + fm.pages.length≤20) (c1:c0≠0)
  (hCk:∀ A n c B m d H,IsForm H (.slice A n c) (.slice B m d) fm→n=fm.fields.length→C0 Tryz.prog 36 #[.agg #[.slice A n c,.slice B m d]] H (fun r _=>r=.int .i64 c0)) :
  C0 Tryz.prog 14 #[.string (mkB (Lib.join (lnF fm) [10]))] h (fun r _=>(((∃ f∈fm.fields,pK f)∨∃ p∈fm.pages,lW p)∧∃ n,r=.tuple #[.agg #[.slice none 0 0,.slice none 0 0],.int .i64 n,.int .i64 1])∨((∀ f∈fm.fields,¬ pK f)∧(∀ p∈fm.pages,¬ lW p)∧r=.tuple #[.agg #[.slice none 0 0,.slice none 0 0],.int .i64 0,.int .i64 c0])):=by
 have hln:=lnF_len fm
 have hS:=fun H q=>c_linesL (lnF fm) (lnF_eachR hw) (by omega) (by omega) H q
 rw [hln] at hS
 have hfd:=fun k f=>lnF_fd (fm:=fm) (k:=k) (f:=f)
 have hpg:=fun k p=>lnF_pg (fm:=fm) (k:=k) (p:=p)
 have hcf:=fun f (q:f∈fm.fields) H=>cutp_f (hw.fd f q).choose_spec.words H
 have hcp:=fun (p:Pg) H=>cutp_p (pgL p) H
 have hFn:=fun f (q:f∈fm.fields) H q1 q2=>readField_no _ f H q1 (hw.fd f q).choose_spec (hw.dp f q) q2
 have hFo:=fun f (q:f∈fm.fields) H q1 q2=>readField_ok _ f H q1 (hw.fd f q).choose_spec (hw.dp f q) q2
 have hPn:=fun p (q:p∈fm.pages) H q1 q2=>readPage_no p H q1 (hw.pg p q) q2
 have hPo:=fun p (q:p∈fm.pages) H q1 q2=>readPage_ok p H q1 (hw.pg p q) q2
 generalize mkB (Lib.join (lnF fm) [10])=sl at *
 obtain ⟨nf,hnf⟩:∃ n,fm.fields.length=n:=⟨_,rfl⟩
 obtain ⟨np,hnp⟩:∃ n,fm.pages.length=n:=⟨_,rfl⟩
 rw [hnf,hnp] at hS
 rw [hnf] at hpg n1 hCk hN20
 rw [hnp] at hN20
 obtain ⟨nN,hNN⟩:∃ n,nf + np=n:=⟨_,rfl⟩
 rw [hNN] at hS
 obtain ⟨ls,hls⟩:∃ ls,lnF fm=ls:=⟨_,rfl⟩
 rw [hls] at hS
 simp only [hls] at hfd hpg
 refine fQ Tryz.func14 (c:=Tryz.f14.body.getD .skip) (N:=85) ?_
 intro hbx hbad Q hQ
 refine go1 10 [.own] [] ?_
 intro b1
 refine bQ (fun H sH=>hS _ (lk.sees sH)) ?_; rintro _ W2 S3 ⟨b,rfl,hr⟩
 refine go0 11 [] [] ?_
 refine iQ (t:=decide ((nN:Int) > 20)) (decide_eq_false (by omega)) ?_
 refine go1 16 [.own] [] ?_
 intro bo
 refine oQ 46 9 ?_
 refine oQ 80 8 ?_
 refine mQ [0,1,0,1,1,1,1] [.block 0,.seq [1,1,1,1,1]] (fun (k:Nat) X=>∃ (W4:Vw) (pl:List Pg) (vf:Value) (vp:Value) (vs:List Value) (us:List Value) (ws:List Value),X W4 [(2,Vp b1),(6,Vp bo),(22,Vs b nN nN),(23,Vi (nN:Int)),(24,Vi (k:Int))] [.row vp 80 8 (oW pl us ws),.row vf 46 9 (qK (fm.fields.take k) vs),.box bo [vf,vp],.box b1 [Vz,Vz]] []∧Sees W2 W4∧(k≤nN)∧(pl=fm.pages.take (k - nf))∧(AllSrc W4 (fm.fields.take k) vs)∧(AllStr W4 (pl.map (·.fields)) us)∧(AllArgs W4 (pl.map (·.skip)) ws)∧(∀ f∈fm.fields.take k,¬ pK f)∧(∀ p∈pl,¬ lW p)) (fun k=>nN - k) (0) (fun X q=>⟨W2,[],(Vz),(Vz),[],[],[],q _ _ _ _ ⟨rfl,by kernel_rfl⟩,Sees.refl _,Nat.zero_le _,by rw [Nat.zero_sub]; rfl,by unfold AllSrc AllArgs; rfl,rfl,by unfold AllArgs; rfl,fun f q=>by simp at q,fun p q=>by cases q⟩) ?_
 rintro k a w ⟨W4,pl,vf,vp,vs,us,ws,hJ,S5,hk,hpe,hvs,hus,hws,hlf,hlp⟩; refine pQ hJ ?_; clear hJ a w
 refine go0 6 [] [] ?_
 have hvl:=hvs.len
 have hul:=hus.len
 have hwl:=hws.len
 rw [List.length_map] at hul hwl
 have hfl:=sK hvl
 have hpl:=pW hul hwl
 have hpk:=congrArg List.length hpe
 rw [List.length_take,hnp] at hpk
 rw [List.length_take] at hfl
 rw [hnf] at hfl
 rcases (by omega:k < nf∨(nf≤k∧k < nN)∨k=nN) with hlt | ⟨hge,hlt⟩ | hke
 ·obtain ⟨f,hfk⟩:∃ f,fm.fields[k]?=some f:=⟨_,List.getElem?_eq_getElem (by omega)⟩
  have hfm:=List.mem_of_getElem? hfk
  have hrow:(ls.map fun x=>[Value.string (mkB x)])[k]?=some [.string (mkB (fdL f))]:=by rw [List.getElem?_map,hfd k f hfk]; rfl
  have hsn:=jY _ k f hfk
  have e0:k - nf=0:=by omega
  have e1:k + 1 - nf=k - nf:=by omega
  have hcf:=fun H=>hcf f hfm H
  have hFn:=fun H q=>hFn f hfm H q
  have hFo:=fun H q=>hFo f hfm H q
  generalize mkB (fdL f)=sf at *
  refine jQ 0 (v:=vp) (e:=80) (kk:=8) (l:=oW pl us ws) ?_; intro Ap cp hE_vp hc_vp hm_vp
  rw [show (oW pl us ws).length=0 from by first | omega | (simp; done) | (simp; omega)] at hE_vp hc_vp
  rw [hE_vp]
  refine wQ (t:=decide ((k:Int) < (nN:Int))) (decide_eq_true (by omega)) ?_
  refine go0 7 [] [] ?_
  have c6:=RS.cell hr (hrow)
  refine gQ (c6.sees S5) ?_
  refine go0 29 [.ix b 0 nN nN k,.f 0 0,.cl 33 #[.string sf,.string ⟨#[112,97,103,101,32]⟩] (.tuple #[.string sf,.bool false])] [] ?_ (ho:=(And.intro (by first | omega | (simp; omega)) (And.intro (fun H sH=>hcf _) (trivial))))
  by_cases hl:pK f
  ·skip
   refine go1 48 [.cl 35 #[.string sf] (.tuple #[.agg #[Ve,Vi 0,Vi 0,Vi 0,Vi 0,Vi 0,Ve,Ve,Vz],Vi 1]),.own,.b 0 0,.b 4 0] [(69,Vi (IntKind.i64.wrap ((k:Int) + 1)),Vi ((k:Int) + 1))] ?_ (ho:=(And.intro (fun H sH=>hFn _ (lk.sees (S3.trans (S5.trans sH))) hl) (trivial))) (hc:=(And.intro (jJ (by omega) (by omega)) (trivial)))
   intro b7
   refine lQ ?_
   refine go0 2 [] [] ?_
   refine hQ.to [.agg #[Vz,Vz],Vi ((k:Int) + 1),Vi 1] (fun H sH=>?_) (ix:=[4])
   exact .inl ⟨.inl ⟨f,hfm,hl⟩,_,rfl⟩
  ·skip
   refine bQ (fun H sH=>hFo _ (lk.sees (S3.trans (S5.trans sH))) hl) ?_; rintro _ W8 S9 ⟨u,rfl,hu⟩
   refine gov2 39 [.own,.b 0 0,.b 3 1,.b 3 0,.b 0 0,.fix] [] ?_
   intro b10 b11 W12 S13
   refine goa0 10 [.ap 2 0 (qK (fm.fields.take k) vs) [[.string f.name,Vi f.kind,Vi f.ty,Vi f.src.op,Vi f.src.k,Vi f.src.n,.string f.src.s,.string f.src.nm,.slice (sA u) (sN u) (sC u)]],.b 3 0] [(77,Vi (IntKind.i64.wrap ((k:Int) + 1)),Vi ((k:Int) + 1))] ?_ (ho:=(And.intro (by rw [hfl]; simp; omega) (trivial))) (hc:=(And.intro (jJ (by omega) (by omega)) (trivial)))
   intro nf2 W14 S15
   refine kQ [(2,Vp b1),(6,Vp bo),(22,Vs b nN nN),(23,Vi (nN:Int)),(24,Vi ((k:Int) + 1))] [.row (.slice Ap 0 cp) 80 8 (oW pl us ws),.row (.slice (sA nf2) (sN nf2) (sC nf2)) 46 9 ((qK (fm.fields.take k) vs)++[[.string f.name,Vi f.kind,Vi f.ty,Vi f.src.op,Vi f.src.k,Vi f.src.n,.string f.src.s,.string f.src.nm,.slice (sA u) (sN u) (sC u)]]),.box bo [.slice (sA nf2) (sN nf2) (sC nf2),.slice Ap 0 cp],.box b1 [Vz,Vz]] [] ?_
   exact vQ (k + 1) (fun X q=>⟨W14,pl,.slice (sA nf2) (sN nf2) (sC nf2),.slice Ap 0 cp,vs++[.slice (sA u) (sN u) (sC u)],us,ws,q _ _ _ _ (qX (by rw [hsn,tK hvl]; try rfl)),(S5.trans (S9.trans (S13.trans S15))),by omega,by rw [e1]; exact hpe,by rw [hsn]; exact AllSrc.snoc (hvs.sees (S9.trans (S13.trans S15))) (hu.sees (S13.trans S15)),(hus.sees (S9.trans (S13.trans S15))),(hws.sees (S9.trans (S13.trans S15))),(by rw [hsn]; exact fun g q=>(List.mem_append.1 q).elim (hlf g) (fun e=>by rw [List.mem_singleton.1 e]; exact hl)),hlp⟩) (by omega)
 ·skip
  obtain ⟨p,hpg0⟩:∃ p,fm.pages[k - nf]?=some p:=⟨_,List.getElem?_eq_getElem (by omega)⟩
  have hpm:=List.mem_of_getElem? hpg0
  have hrow:(ls.map fun x=>[Value.string (mkB x)])[k]?=some [.string (mkB (pgW++pgL p))]:=by rw [List.getElem?_map,hpg k p hge hpg0]; rfl
  have hsn:=jY _ (k - nf) p hpg0
  have e1:k + 1 - nf=k - nf + 1:=by omega
  have e2:fm.fields.take (k + 1)=fm.fields.take k:=by rw [List.take_of_length_le (by omega),List.take_of_length_le (by omega)]
  have hcp:=fun H=>hcp p H
  have hPn:=fun H q=>hPn p hpm H q
  have hPo:=fun H q=>hPo p hpm H q
  generalize mkB (pgW++pgL p)=sp at *
  generalize mkB (pgL p)=sq at *
  refine wQ (t:=decide ((k:Int) < (nN:Int))) (decide_eq_true (by omega)) ?_
  refine go0 7 [] [] ?_
  have c16:=RS.cell hr (hrow)
  refine gQ (c16.sees S5) ?_
  refine go0 27 [.ix b 0 nN nN k,.f 0 0,.cl 33 #[.string sp,.string ⟨#[112,97,103,101,32]⟩] (.tuple #[.string sq,.bool true])] [] ?_ (ho:=(And.intro (by first | omega | (simp; omega)) (And.intro (fun H sH=>hcp _) (trivial))))
  by_cases hl:lW p
  ·skip
   refine go1 33 [.cl 34 #[.string sq] (.tuple #[.agg #[Ve,Vz,Vi 0,Vi 0,Vi 0,Ve,Ve,Vz],Vi 1]),.own,.b 0 0,.b 4 0] [(44,Vi (IntKind.i64.wrap ((k:Int) + 1)),Vi ((k:Int) + 1))] ?_ (ho:=(And.intro (fun H sH=>hPn _ (lk.sees (S3.trans (S5.trans sH))) hl) (trivial))) (hc:=(And.intro (jJ (by omega) (by omega)) (trivial)))
   intro b17
   refine lQ ?_
   refine go0 2 [] [] ?_
   refine hQ.to [.agg #[Vz,Vz],Vi ((k:Int) + 1),Vi 1] (fun H sH=>?_) (ix:=[4])
   exact .inl ⟨.inr ⟨p,hpm,hl⟩,_,rfl⟩
  ·skip
   refine bQ (fun H sH=>hPo _ (lk.sees (S3.trans (S5.trans sH))) hl) ?_; rintro _ W18 S19 ⟨u,v,rfl,hu,hv⟩
   refine gov2 24 [.own,.b 0 0,.b 3 1,.b 0 0,.fix] [] ?_
   intro b20 b21 W22 S23
   refine goa0 13 [.ap 1 0 (oW pl us ws) [[.string p.name,.slice (sA u) (sN u) (sC u),Vi p.skip.op,Vi p.skip.k,Vi p.skip.n,.string p.skip.s,.string p.skip.nm,.slice (sA v) (sN v) (sC v)]],.b 3 1] [(77,Vi (IntKind.i64.wrap ((k:Int) + 1)),Vi ((k:Int) + 1))] ?_ (ho:=(And.intro (by rw [hpl]; simp; omega) (trivial))) (hc:=(And.intro (jJ (by omega) (by omega)) (trivial)))
   intro np2 W24 S25
   refine kQ [(2,Vp b1),(6,Vp bo),(22,Vs b nN nN),(23,Vi (nN:Int)),(24,Vi ((k:Int) + 1))] [.row (.slice (sA np2) (sN np2) (sC np2)) 80 8 ((oW pl us ws)++[[.string p.name,.slice (sA u) (sN u) (sC u),Vi p.skip.op,Vi p.skip.k,Vi p.skip.n,.string p.skip.s,.string p.skip.nm,.slice (sA v) (sN v) (sC v)]]),.row vf 46 9 (qK (fm.fields.take k) vs),.box bo [vf,.slice (sA np2) (sN np2) (sC np2)],.box b1 [Vz,Vz]] [] ?_
   exact vQ (k + 1) (fun X q=>⟨W24,pl++[p],vf,.slice (sA np2) (sN np2) (sC np2),vs,us++[.slice (sA u) (sN u) (sC u)],ws++[.slice (sA v) (sN v) (sC v)],q _ _ _ _ (qX (by rw [qW hul hwl,e2]; try rfl)),(S5.trans (S19.trans (S23.trans S25))),by omega,by rw [e1,hsn,hpe],by rw [e2]; exact (hvs.sees (S19.trans (S23.trans S25))),by rw [List.map_append]; exact AllStr.snoc (hu.sees (S23.trans S25)) (hus.sees (S19.trans (S23.trans S25))),by rw [List.map_append]; exact AllArgs.snoc (hv.sees (S23.trans S25)) (hws.sees (S19.trans (S23.trans S25))),by rw [e2]; exact hlf,(by exact fun g q=>(List.mem_append.1 q).elim (hlp g) (fun e=>by rw [List.mem_singleton.1 e]; exact hl))⟩) (by omega)
 ·skip
  have et:fm.fields.take k=fm.fields:=List.take_of_length_le (by omega)
  have ep:fm.pages.take (k - nf)=fm.pages:=List.take_of_length_le (by omega)
  rw [et] at hvs hlf hfl ⊢
  rw [ep] at hpe
  subst hpe
  refine jQ 1 (v:=vf) (e:=46) (kk:=9) (l:=qK fm.fields vs) ?_; intro Af cf hE_vf hc_vf hm_vf
  rw [show (qK fm.fields vs).length=nf from by first | omega | (simp; done) | (simp; omega)] at hE_vf hc_vf
  rw [hE_vf]
  refine jQ 0 (v:=vp) (e:=80) (kk:=8) (l:=oW fm.pages us ws) ?_; intro Ap cp hE_vp hc_vp hm_vp
  rw [show (oW fm.pages us ws).length=np from by first | omega | (simp; done) | (simp; omega)] at hE_vp hc_vp
  rw [hE_vp]
  refine iQ (t:=decide ((k:Int) < (nN:Int))) (decide_eq_false (by omega)) ?_
  refine go0 2 [] [] ?_
  refine lQ ?_
  refine go0 6 [.b 2 0] [] ?_
  refine g_freeze 0 (v:=.slice Ap np cp) (e:=80) (kk:=8) (l:=oW fm.pages us ws) ?_; intro W26 S27 fP
  refine g_freeze 0 (v:=.slice Af nf cf) (e:=46) (kk:=9) (l:=qK fm.fields vs) ?_; intro W28 S29 fF
  refine go0 10 [.cl 36 #[.agg #[.slice Af nf cf,.slice Ap np cp]] (Vi c0)] [] ?_ (ho:=(And.intro (fun H sH=>hCk _ _ _ _ _ _ _ ⟨⟨vs,(fF.sees sH),(hvs.sees (S27.trans (S29.trans sH)))⟩,us,ws,(fP.sees (S29.trans sH)),(hus.sees (S27.trans (S29.trans sH))),(hws.sees (S27.trans (S29.trans sH)))⟩ rfl) (trivial)))
  refine wQ (t:=c0 != 0) (bne_iff_ne.2 c1) ?_
  refine go0 11 [.b 1 0] [] ?_
  refine hQ.to [.agg #[Vz,Vz],Vi 0,Vi c0] (fun H sH=>?_) (ix:=[1])
  exact .inr ⟨hlf,hlp,rfl⟩
theorem cutp_what (H:Vw):C0 Tryz.prog 33 #[.string ⟨#[119,104,97,116]⟩,.string ⟨#[112,97,103,101,32]⟩] H (fun r _=>r=.tuple #[.string ⟨#[119,104,97,116]⟩,.bool false]) :=
 (c_cutp ⟨#[119,104,97,116]⟩ ⟨#[112,97,103,101,32]⟩ H).mono fun v h' _ k=>k
theorem readField_what (h:Vw) (lk:Lk h) :
  C0 Tryz.prog 35 #[.string ⟨#[119,104,97,116]⟩] h (fun r _=>r=.tuple #[.agg #[.string ⟨#[]⟩,.int .i64 0,.int .i64 0,.int .i64 0,.int .i64 0,.int .i64 0,.string ⟨#[]⟩,.string ⟨#[]⟩,.slice none 0 0],.int .i64 3]):=by
 have hC:∀ H,Lk H→C0 Tryz.prog 64 #[.string ⟨#[119,104,97,116]⟩,.string ⟨#[32,61,32]⟩] H (fun r _=>r=.tuple #[.string ⟨#[119,104,97,116]⟩,.string (mkB []),.bool false]) :=
  fun H q=>c_cut ⟨#[119,104,97,116]⟩ ⟨#[32,61,32]⟩ [119,104,97,116] [] false H q (by decide) (cut_miss (idx_none (c:=32) rfl (by decide)))
 have hS:∀ H,Lk H→C0 Tryz.prog 19 #[.string ⟨#[119,104,97,116]⟩,.string ⟨#[32]⟩] H (fun r h'=>∃ b,r=.slice (some ⟨b,0,none⟩) 1 1∧Cells h' b 0 [.string (mkB [119,104,97,116])]) :=
  fun H q=>c_splitC ⟨#[119,104,97,116]⟩ ⟨#[32]⟩ [[119,104,97,116]] H q (by decide) (by decide) (split_join (l:=[[119,104,97,116]]) rfl (by simp) (by decide))
 refine fQ Tryz.func35 (c:=Tryz.f35.body.getD .skip) (N:=82) ?_
 intro hbx hbad Q hQ
 refine go3 34 [.own,.cl 67 #[] (.tuple #[.agg #[Ve,.string ⟨#[105,110,116]⟩,.string ⟨#[98,111,111,108]⟩,.string ⟨#[116,101,120,116]⟩],.agg #[Ve,.string ⟨#[105,110,112,117,116]⟩,.string ⟨#[102,111,114,109,117,108,97]⟩,.string ⟨#[108,111,111,107,117,112]⟩]]),.own,.own,.b 1 0,.b 0 0,.cl 64 #[.string ⟨#[119,104,97,116]⟩,.string ⟨#[32,61,32]⟩] (.tuple #[.string ⟨#[119,104,97,116]⟩,.string (mkB []),.bool false])] [] ?_ (ho:=(And.intro (fun H sH=>mY _) (And.intro (fun H sH=>hC _ (lk.sees sH)) (trivial))))
 intro b1 b2 b3
 refine bQ (fun H sH=>hS _ (lk.sees sH)) ?_; rintro _ W4 S5 ⟨b,rfl,hc⟩
 refine go0 21 [.b 2 0] [] ?_
 refine hQ.to [.agg #[Ve,Vi 0,Vi 0,Vi 0,Vi 0,Vi 0,Ve,Ve,Vz],Vi 3] (fun H sH=>?_) (ix:=[2])
 exact rfl
set_option maxHeartbeats 4000000 in
theorem read_what (fm:Fm) (aw:Nat) (h:Vw) (lk:Lk h) (hw:FmR fm) (n1:1≤fm.fields.length) (hN20:fm.fields.length + fm.pages.length≤19) (hap:aw≤fm.fields.length + fm.pages.length) :
  C0 Tryz.prog 14 #[.string (mkB (Lib.join ((lnF fm).take aw++[119,104,97,116] :: (lnF fm).drop aw) [10]))] h (fun r _=>(((∃ f∈fm.fields.take aw,pK f)∨∃ p∈fm.pages.take (aw - fm.fields.length),lW p)∧∃ n,r=.tuple #[.agg #[.slice none 0 0,.slice none 0 0],.int .i64 n,.int .i64 1])∨(¬ ((∃ f∈fm.fields.take aw,pK f)∨∃ p∈fm.pages.take (aw - fm.fields.length),lW p))∧r=.tuple #[.agg #[.slice none 0 0,.slice none 0 0],.int .i64 ((aw:Int) + 1),.int .i64 3]):=by
 have hln:=lnF_len fm
 have hLl:((lnF fm).take aw++[119,104,97,116] :: (lnF fm).drop aw).length=fm.fields.length + fm.pages.length + 1:=by
  rw [List.length_append,List.length_cons,List.length_take,List.length_drop]; omega
 have hLe:∀ x∈(lnF fm).take aw++[119,104,97,116] :: (lnF fm).drop aw,x.length≤10005∧(10:UInt8) ∉ x:=fun x hx=>by
  rcases List.mem_append.1 hx with q | q
  ·exact lnF_eachR hw x (List.mem_of_mem_take q)
  ·rcases List.mem_cons.1 q with rfl | q
   ·exact ⟨by decide,by decide⟩
   ·exact lnF_eachR hw x (List.mem_of_mem_drop q)
 have hS:=fun H q=>c_linesL _ hLe (by omega) (by omega) H q
 rw [hLl] at hS
 have hL1:∀ k x,k < aw→(lnF fm)[k]?=some x→((lnF fm).take aw++[119,104,97,116] :: (lnF fm).drop aw)[k]?=some x:=fun k x hk hx=>by
  rw [List.getElem?_append_left (by rw [List.length_take]; omega),List.getElem?_take_of_lt hk,hx]
 have hL2:((lnF fm).take aw++[119,104,97,116] :: (lnF fm).drop aw)[aw]?=some [119,104,97,116]:=by
  rw [List.getElem?_append_right (by rw [List.length_take]; omega),List.length_take,Nat.min_eq_left (by omega),Nat.sub_self]; rfl
 have hfd:=fun k (f:Fd) (hk:k < aw) (q:fm.fields[k]?=some f)=>hL1 k _ hk (lnF_fd q)
 have hpg:=fun k (p:Pg) (hk:k < aw) (q1:fm.fields.length≤k) (q2:fm.pages[k - fm.fields.length]?=some p)=>hL1 k _ hk (lnF_pg q1 q2)
 clear hL1
 have hcf:=fun f (q:f∈fm.fields) H=>cutp_f (hw.fd f q).choose_spec.words H
 have hcp:=fun (p:Pg) H=>cutp_p (pgL p) H
 have hFn:=fun f (q:f∈fm.fields) H q1 q2=>readField_no _ f H q1 (hw.fd f q).choose_spec (hw.dp f q) q2
 have hFo:=fun f (q:f∈fm.fields) H q1 q2=>readField_ok _ f H q1 (hw.fd f q).choose_spec (hw.dp f q) q2
 have hPn:=fun p (q:p∈fm.pages) H q1 q2=>readPage_no p H q1 (hw.pg p q) q2
 have hPo:=fun p (q:p∈fm.pages) H q1 q2=>readPage_ok p H q1 (hw.pg p q) q2
 obtain ⟨ls,hls⟩:∃ ls,(lnF fm).take aw++[119,104,97,116] :: (lnF fm).drop aw=ls:=⟨_,rfl⟩
 rw [hls] at hS hL2 ⊢
 simp only [hls] at hfd hpg
 generalize mkB (Lib.join ls [10])=sl at *
 obtain ⟨nf,hnf⟩:∃ n,fm.fields.length=n:=⟨_,rfl⟩
 obtain ⟨np,hnp⟩:∃ n,fm.pages.length=n:=⟨_,rfl⟩
 rw [hnf,hnp] at hS
 rw [hnf] at hpg n1 hN20 hap
 rw [hnp] at hN20 hap
 obtain ⟨nN,hNN⟩:∃ n,nf + np + 1=n:=⟨_,rfl⟩
 rw [hNN] at hS
 refine fQ Tryz.func14 (c:=Tryz.f14.body.getD .skip) (N:=85) ?_
 intro hbx hbad Q hQ
 refine go1 10 [.own] [] ?_
 intro b1
 refine bQ (fun H sH=>hS _ (lk.sees sH)) ?_; rintro _ W2 S3 ⟨b,rfl,hr⟩
 refine go0 11 [] [] ?_
 refine iQ (t:=decide ((nN:Int) > 20)) (decide_eq_false (by omega)) ?_
 refine go1 16 [.own] [] ?_
 intro bo
 refine oQ 46 9 ?_
 refine oQ 80 8 ?_
 refine mQ [0,1,0,1,1,1,1] [.block 0,.seq [1,1,1,1,1]] (fun (k:Nat) X=>∃ (W4:Vw) (pl:List Pg) (vf:Value) (vp:Value) (vs:List Value) (us:List Value) (ws:List Value),X W4 [(2,Vp b1),(6,Vp bo),(22,Vs b nN nN),(23,Vi (nN:Int)),(24,Vi (k:Int))] [.row vp 80 8 (oW pl us ws),.row vf 46 9 (qK (fm.fields.take k) vs),.box bo [vf,vp],.box b1 [Vz,Vz]] []∧Sees W2 W4∧(k≤aw)∧(pl=fm.pages.take (k - nf))∧(AllSrc W4 (fm.fields.take k) vs)∧(AllStr W4 (pl.map (·.fields)) us)∧(AllArgs W4 (pl.map (·.skip)) ws)∧(∀ f∈fm.fields.take k,¬ pK f)∧(∀ p∈pl,¬ lW p)) (fun k=>nN - k) (0) (fun X q=>⟨W2,[],(Vz),(Vz),[],[],[],q _ _ _ _ ⟨rfl,by kernel_rfl⟩,Sees.refl _,Nat.zero_le _,by rw [Nat.zero_sub]; rfl,by unfold AllSrc AllArgs; rfl,rfl,by unfold AllArgs; rfl,fun f q=>by simp at q,fun p q=>by cases q⟩) ?_
 rintro k a w ⟨W4,pl,vf,vp,vs,us,ws,hJ,S5,hk,hpe,hvs,hus,hws,hlf,hlp⟩; refine pQ hJ ?_; clear hJ a w
 refine go0 6 [] [] ?_
 have hvl:=hvs.len
 have hul:=hus.len
 have hwl:=hws.len
 rw [List.length_map] at hul hwl
 have hfl:=sK hvl
 have hpl:=pW hul hwl
 have hpk:=congrArg List.length hpe
 rw [List.length_take,hnp] at hpk
 rw [List.length_take] at hfl
 rw [hnf] at hfl
 rcases (by omega:(k < aw∧k < nf)∨(k < aw∧nf≤k)∨k=aw) with ⟨hka,hlt⟩ | ⟨hka,hge⟩ | hke
 ·obtain ⟨f,hfk⟩:∃ f,fm.fields[k]?=some f:=⟨_,List.getElem?_eq_getElem (by omega)⟩
  have hfm:=List.mem_of_getElem? hfk
  have hrow:(ls.map fun x=>[Value.string (mkB x)])[k]?=some [.string (mkB (fdL f))]:=by rw [List.getElem?_map,hfd k f hka hfk]; rfl
  have hsn:=jY _ k f hfk
  have e0:k - nf=0:=by omega
  have e1:k + 1 - nf=k - nf:=by omega
  have hcf:=fun H=>hcf f hfm H
  have hFn:=fun H q=>hFn f hfm H q
  have hFo:=fun H q=>hFo f hfm H q
  generalize mkB (fdL f)=sf at *
  refine jQ 0 (v:=vp) (e:=80) (kk:=8) (l:=oW pl us ws) ?_; intro Ap cp hE_vp hc_vp hm_vp
  rw [show (oW pl us ws).length=0 from by first | omega | (simp; done) | (simp; omega)] at hE_vp hc_vp
  rw [hE_vp]
  refine wQ (t:=decide ((k:Int) < (nN:Int))) (decide_eq_true (by omega)) ?_
  refine go0 7 [] [] ?_
  have c6:=RS.cell hr (hrow)
  refine gQ (c6.sees S5) ?_
  refine go0 29 [.ix b 0 nN nN k,.f 0 0,.cl 33 #[.string sf,.string ⟨#[112,97,103,101,32]⟩] (.tuple #[.string sf,.bool false])] [] ?_ (ho:=(And.intro (by first | omega | (simp; omega)) (And.intro (fun H sH=>hcf _) (trivial))))
  by_cases hl:pK f
  ·skip
   refine go1 48 [.cl 35 #[.string sf] (.tuple #[.agg #[Ve,Vi 0,Vi 0,Vi 0,Vi 0,Vi 0,Ve,Ve,Vz],Vi 1]),.own,.b 0 0,.b 4 0] [(69,Vi (IntKind.i64.wrap ((k:Int) + 1)),Vi ((k:Int) + 1))] ?_ (ho:=(And.intro (fun H sH=>hFn _ (lk.sees (S3.trans (S5.trans sH))) hl) (trivial))) (hc:=(And.intro (jJ (by omega) (by omega)) (trivial)))
   intro b7
   refine lQ ?_
   refine go0 2 [] [] ?_
   refine hQ.to [.agg #[Vz,Vz],Vi ((k:Int) + 1),Vi 1] (fun H sH=>?_) (ix:=[4])
   exact .inl ⟨.inl ⟨f,List.mem_of_getElem? (i:=k) (by rw [List.getElem?_take_of_lt hka,hfk]),hl⟩,_,rfl⟩
  ·skip
   refine bQ (fun H sH=>hFo _ (lk.sees (S3.trans (S5.trans sH))) hl) ?_; rintro _ W8 S9 ⟨u,rfl,hu⟩
   refine gov2 39 [.own,.b 0 0,.b 3 1,.b 3 0,.b 0 0,.fix] [] ?_
   intro b10 b11 W12 S13
   refine goa0 10 [.ap 2 0 (qK (fm.fields.take k) vs) [[.string f.name,Vi f.kind,Vi f.ty,Vi f.src.op,Vi f.src.k,Vi f.src.n,.string f.src.s,.string f.src.nm,.slice (sA u) (sN u) (sC u)]],.b 3 0] [(77,Vi (IntKind.i64.wrap ((k:Int) + 1)),Vi ((k:Int) + 1))] ?_ (ho:=(And.intro (by rw [hfl]; simp; omega) (trivial))) (hc:=(And.intro (jJ (by omega) (by omega)) (trivial)))
   intro nf2 W14 S15
   refine kQ [(2,Vp b1),(6,Vp bo),(22,Vs b nN nN),(23,Vi (nN:Int)),(24,Vi ((k:Int) + 1))] [.row (.slice Ap 0 cp) 80 8 (oW pl us ws),.row (.slice (sA nf2) (sN nf2) (sC nf2)) 46 9 ((qK (fm.fields.take k) vs)++[[.string f.name,Vi f.kind,Vi f.ty,Vi f.src.op,Vi f.src.k,Vi f.src.n,.string f.src.s,.string f.src.nm,.slice (sA u) (sN u) (sC u)]]),.box bo [.slice (sA nf2) (sN nf2) (sC nf2),.slice Ap 0 cp],.box b1 [Vz,Vz]] [] ?_
   exact vQ (k + 1) (fun X q=>⟨W14,pl,.slice (sA nf2) (sN nf2) (sC nf2),.slice Ap 0 cp,vs++[.slice (sA u) (sN u) (sC u)],us,ws,q _ _ _ _ (qX (by rw [hsn,tK hvl]; try rfl)),(S5.trans (S9.trans (S13.trans S15))),by omega,by rw [e1]; exact hpe,by rw [hsn]; exact AllSrc.snoc (hvs.sees (S9.trans (S13.trans S15))) (hu.sees (S13.trans S15)),(hus.sees (S9.trans (S13.trans S15))),(hws.sees (S9.trans (S13.trans S15))),(by rw [hsn]; exact fun g q=>(List.mem_append.1 q).elim (hlf g) (fun e=>by rw [List.mem_singleton.1 e]; exact hl)),hlp⟩) (by omega)
 ·skip
  obtain ⟨p,hpg0⟩:∃ p,fm.pages[k - nf]?=some p:=⟨_,List.getElem?_eq_getElem (by omega)⟩
  have hpm:=List.mem_of_getElem? hpg0
  have hrow:(ls.map fun x=>[Value.string (mkB x)])[k]?=some [.string (mkB (pgW++pgL p))]:=by rw [List.getElem?_map,hpg k p hka hge hpg0]; rfl
  have hsn:=jY _ (k - nf) p hpg0
  have e1:k + 1 - nf=k - nf + 1:=by omega
  have e2:fm.fields.take (k + 1)=fm.fields.take k:=by rw [List.take_of_length_le (by omega),List.take_of_length_le (by omega)]
  have hcp:=fun H=>hcp p H
  have hPn:=fun H q=>hPn p hpm H q
  have hPo:=fun H q=>hPo p hpm H q
  generalize mkB (pgW++pgL p)=sp at *
  generalize mkB (pgL p)=sq at *
  refine wQ (t:=decide ((k:Int) < (nN:Int))) (decide_eq_true (by omega)) ?_
  refine go0 7 [] [] ?_
  have c16:=RS.cell hr (hrow)
  refine gQ (c16.sees S5) ?_
  refine go0 27 [.ix b 0 nN nN k,.f 0 0,.cl 33 #[.string sp,.string ⟨#[112,97,103,101,32]⟩] (.tuple #[.string sq,.bool true])] [] ?_ (ho:=(And.intro (by first | omega | (simp; omega)) (And.intro (fun H sH=>hcp _) (trivial))))
  by_cases hl:lW p
  ·skip
   refine go1 33 [.cl 34 #[.string sq] (.tuple #[.agg #[Ve,Vz,Vi 0,Vi 0,Vi 0,Ve,Ve,Vz],Vi 1]),.own,.b 0 0,.b 4 0] [(44,Vi (IntKind.i64.wrap ((k:Int) + 1)),Vi ((k:Int) + 1))] ?_ (ho:=(And.intro (fun H sH=>hPn _ (lk.sees (S3.trans (S5.trans sH))) hl) (trivial))) (hc:=(And.intro (jJ (by omega) (by omega)) (trivial)))
   intro b17
   refine lQ ?_
   refine go0 2 [] [] ?_
   refine hQ.to [.agg #[Vz,Vz],Vi ((k:Int) + 1),Vi 1] (fun H sH=>?_) (ix:=[4])
   exact .inl ⟨.inr ⟨p,List.mem_of_getElem? (i:=k - nf) (by rw [hnf,List.getElem?_take_of_lt (by omega),hpg0]),hl⟩,_,rfl⟩
  ·skip
   refine bQ (fun H sH=>hPo _ (lk.sees (S3.trans (S5.trans sH))) hl) ?_; rintro _ W18 S19 ⟨u,v,rfl,hu,hv⟩
   refine gov2 24 [.own,.b 0 0,.b 3 1,.b 0 0,.fix] [] ?_
   intro b20 b21 W22 S23
   refine goa0 13 [.ap 1 0 (oW pl us ws) [[.string p.name,.slice (sA u) (sN u) (sC u),Vi p.skip.op,Vi p.skip.k,Vi p.skip.n,.string p.skip.s,.string p.skip.nm,.slice (sA v) (sN v) (sC v)]],.b 3 1] [(77,Vi (IntKind.i64.wrap ((k:Int) + 1)),Vi ((k:Int) + 1))] ?_ (ho:=(And.intro (by rw [hpl]; simp; omega) (trivial))) (hc:=(And.intro (jJ (by omega) (by omega)) (trivial)))
   intro np2 W24 S25
   refine kQ [(2,Vp b1),(6,Vp bo),(22,Vs b nN nN),(23,Vi (nN:Int)),(24,Vi ((k:Int) + 1))] [.row (.slice (sA np2) (sN np2) (sC np2)) 80 8 ((oW pl us ws)++[[.string p.name,.slice (sA u) (sN u) (sC u),Vi p.skip.op,Vi p.skip.k,Vi p.skip.n,.string p.skip.s,.string p.skip.nm,.slice (sA v) (sN v) (sC v)]]),.row vf 46 9 (qK (fm.fields.take k) vs),.box bo [vf,.slice (sA np2) (sN np2) (sC np2)],.box b1 [Vz,Vz]] [] ?_
   exact vQ (k + 1) (fun X q=>⟨W24,pl++[p],vf,.slice (sA np2) (sN np2) (sC np2),vs,us++[.slice (sA u) (sN u) (sC u)],ws++[.slice (sA v) (sN v) (sC v)],q _ _ _ _ (qX (by rw [qW hul hwl,e2]; try rfl)),(S5.trans (S19.trans (S23.trans S25))),by omega,by rw [e1,hsn,hpe],by rw [e2]; exact (hvs.sees (S19.trans (S23.trans S25))),by rw [List.map_append]; exact AllStr.snoc (hu.sees (S23.trans S25)) (hus.sees (S19.trans (S23.trans S25))),by rw [List.map_append]; exact AllArgs.snoc (hv.sees (S23.trans S25)) (hws.sees (S19.trans (S23.trans S25))),by rw [e2]; exact hlf,(by exact fun g q=>(List.mem_append.1 q).elim (hlp g) (fun e=>by rw [List.mem_singleton.1 e]; exact hl))⟩) (by omega)
 ·skip
  have hrow:(ls.map fun x=>[Value.string (mkB x)])[k]?=some [.string ⟨#[119,104,97,116]⟩]:=by rw [List.getElem?_map,hke,hL2]; rfl
  refine wQ (t:=decide ((k:Int) < (nN:Int))) (decide_eq_true (by omega)) ?_
  refine go0 7 [] [] ?_
  have c26:=RS.cell hr (hrow)
  refine gQ (c26.sees S5) ?_
  refine go1 77 [.ix b 0 nN nN k,.f 0 0,.cl 33 #[.string ⟨#[119,104,97,116]⟩,.string ⟨#[112,97,103,101,32]⟩] (.tuple #[.string ⟨#[119,104,97,116]⟩,.bool false]),.cl 35 #[.string ⟨#[119,104,97,116]⟩] (.tuple #[.agg #[Ve,Vi 0,Vi 0,Vi 0,Vi 0,Vi 0,Ve,Ve,Vz],Vi 3]),.own,.b 0 0,.b 4 0] [(69,Vi (IntKind.i64.wrap ((k:Int) + 1)),Vi ((k:Int) + 1))] ?_ (ho:=(And.intro (by first | omega | (simp; omega)) (And.intro (fun H sH=>cutp_what _) (And.intro (fun H sH=>readField_what _ (lk.sees (S3.trans (S5.trans sH)))) (trivial))))) (hc:=(And.intro (jJ (by omega) (by omega)) (trivial)))
  intro b27
  refine lQ ?_
  refine go0 2 [] [] ?_
  refine hQ.to [.agg #[Vz,Vz],Vi ((k:Int) + 1),Vi 3] (fun H sH=>?_) (ix:=[4])
  exact .inr ⟨fun q=>q.elim (fun ⟨f,f1,f2⟩=>hlf f (by rw [hke]; exact f1) f2) (fun ⟨p,f1,f2⟩=>hlp p (by rw [hpe,hke,← hnf]; exact f1) f2),by rw [hke]; rfl⟩
end Go.Proofs.YthplkompdehjlaaGreatDoor
namespace Go.Proofs.YthplkompdehjlaaGreatDoor
open Go.RowKit
set_option linter.unusedVariables false
set_option maxHeartbeats 2000000 in
theorem check_twin (fs:List Fd) (fv:Value) (h:Vw) (hf:∀ f∈fs,∃ gs,OkF gs f) (few:fs.length≤14) (t i:Nat) (ht:t < fs.length) (hnd:((fs.take t).map (·.name)).Nodup) (ft:Fd) (hft:fs[t]?=some ft) (hfi:vK (fs.take t) ft.name=i) (hfs:IsFds h fv fs) :
  C0 Tryz.prog 97 #[fv] h (fun r _=>r=.int .i64 6):=by
 obtain ⟨vs,A,c,rfl,hc1,hc2,hr,hsrc,hvl,hsl⟩:=uK hfs
 refine fQ Tryz.func97 (c:=Tryz.f97.body.getD .skip) (N:=51) ?_
 intro hbx hbad Q hQ
 refine go0 13 [] [] ?_
 refine iQ (t:=decide ((fs.length:Int) > 14)) (decide_eq_false (by omega)) ?_
 refine go0 11 [] [] ?_
 refine mQ [0,1,0,1,1] [.block 0,.seq [1,1,1]] (fun (k:Nat) X=>∃ (W1:Vw) ,X W1 [(0,.slice A fs.length c),(14,.slice A fs.length c),(15,Vi (fs.length:Int)),(16,Vi (k:Int))] [] []∧Sees h W1∧(k≤t)) (fun k=>fs.length - k) (0) (fun X q=>⟨h,q _ _ _ _ ⟨rfl,by kernel_rfl⟩,Sees.refl _,Nat.zero_le _⟩) ?_
 rintro k a w ⟨W1,hJ,S2,hk⟩; refine pQ hJ ?_; clear hJ a w
 refine go0 6 [] [] ?_
 have hlt:k < fs.length:=by omega
 obtain ⟨f,hfk⟩:∃ f,fs[k]?=some f:=⟨_,List.getElem?_eq_getElem (by omega)⟩
 obtain ⟨u,huk⟩:∃ u,vs[k]?=some u:=⟨_,List.getElem?_eq_getElem (by omega)⟩
 have hslu:=hsl u (List.mem_of_getElem? huk)
 have hrow:(qK fs vs)[k]?=some (fdRow f (.slice (sA u) (sN u) (sC u))):=by rw [hslu]; exact rK hfk huk
 have ha:IsArgs h f.src (.slice (sA u) (sN u) (sC u)):=by rw [hslu]; exact AllArgs.get hsrc (x:=f.src) (by rw [List.getElem?_map,hfk]; rfl) huk
 obtain ⟨gs,hok⟩:=hf f (List.mem_of_getElem? hfk)
 have htk:=fds_take hfs k (by omega)
 rcases (by omega:k < t∨k=t) with hkt | hkt
 ·have hno:vK (fs.take k) f.name = -1:=findF_none fun y hy e=>by
   obtain ⟨j,hj⟩:=List.mem_iff_getElem?.1 hy
   rw [List.getElem?_take] at hj
   split at hj
   ·rename_i hjk
    have h1:((fs.take t).map (fun f:Fd=>f.name))[j]?=some f.name:=by rw [List.getElem?_map,List.getElem?_take_of_lt (by omega),hj]; simp [e]
    have h2:((fs.take t).map (fun f:Fd=>f.name))[k]?=some f.name:=by rw [List.getElem?_map,List.getElem?_take_of_lt hkt,hfk]; rfl
    have:=(List.getElem?_inj (by rw [List.length_map,List.length_take]; omega) hnd).1 (h1.trans h2.symm)
    omega
   ·cases hj
  refine wQ (t:=decide ((k:Int) < (fs.length:Int))) (decide_eq_true (by omega)) ?_
  refine go0 7 [] [] ?_
  obtain ⟨b3,o4,rfl,-,c5⟩:=RS.row hr (hrow)
  refine gQ (c5.sees S2) ?_
  refine go1 25 [.ix b3 o4 fs.length c k,.f 0 0,.own,.b 0 0,.b 0 0,.cl 69 #[.agg #[.string f.name,Vi f.kind,Vi f.ty,Vi f.src.op,Vi f.src.k,Vi f.src.n,.string f.src.s,.string f.src.nm,.slice (sA u) (sN u) (sC u)]] (Vi 0)] [] ?_ (ho:=(And.intro (by first | omega | (simp; omega)) (And.intro (fun H sH=>right_any gs f _ _ hok (ha.sees (S2.trans sH))) (trivial))))
  intro b6
  refine tQ 11 0 [.pu,.pu,.v (fun gh=>.slice (some ⟨b3,o4,none⟩) k c),.pu,.ld 0 0,.v (fun gh=>.tuple #[Vi 0,Vi 5]),.pu,.pu,.pu,.pu,.pu] [] (trivial) ?_ ?_
  ·intro R hT hA hmono
   refine And.intro (t_p hT hA (fun gh=>.slice (some ⟨b3,o4,none⟩) k c) (fun gh w=>run_hi (t:=30) (e:=46) (x:=(.tmp 27)) (y:=(.tmp 28)) (A:=(some ⟨b3,o4,none⟩)) (n:=fs.length) (cap:=c) (k:=k) (kk:=9) (by kernel_rfl) (by kernel_rfl) (by kernel_rfl) (by omega) Tryz.underlying30 (by kernel_rfl))) ?_
   refine And.intro (t_v hT hA hmono (k:=104) (args:=(fun gh=>#[.slice (some ⟨b3,o4,none⟩) k c,.string f.name])) (f:=fun gh=>.tuple #[Vi 0,Vi 5]) (fun gh H sH fH lent=>find_no (fs.take k) _ f.name _ (htk.sees (S2.trans sH)) (by rw [List.length_take]; omega) (by omega))) ?_
   trivial
  rintro W7 S8 -
  refine go0 15 [] [(37,Vi (IntKind.i64.wrap ((k:Int) + 1)),Vi ((k:Int) + 1))] ?_ (hc:=(And.intro (jJ (by omega) (by omega)) (trivial)))
  exact vQ (k + 1) (fun X q=>⟨W7,q _ _ _ _ ⟨rfl,by kernel_rfl⟩,(S2.trans S8),by omega⟩) (by omega)
 ·skip
  have hfn:vK (fs.take k) f.name=i:=by
   have e:some f=some ft:=by rw [← hfk,hkt,hft]
   rw [hkt,Option.some.inj e]; exact hfi
  refine wQ (t:=decide ((k:Int) < (fs.length:Int))) (decide_eq_true (by omega)) ?_
  refine go0 7 [] [] ?_
  obtain ⟨b9,o10,rfl,-,c11⟩:=RS.row hr (hrow)
  refine gQ (c11.sees S2) ?_
  refine go1 25 [.ix b9 o10 fs.length c k,.f 0 0,.own,.b 0 0,.b 0 0,.cl 69 #[.agg #[.string f.name,Vi f.kind,Vi f.ty,Vi f.src.op,Vi f.src.k,Vi f.src.n,.string f.src.s,.string f.src.nm,.slice (sA u) (sN u) (sC u)]] (Vi 0)] [] ?_ (ho:=(And.intro (by first | omega | (simp; omega)) (And.intro (fun H sH=>right_any gs f _ _ hok (ha.sees (S2.trans sH))) (trivial))))
  intro b12
  refine tQ 11 0 [.pu,.pu,.v (fun gh=>.slice (some ⟨b9,o10,none⟩) k c),.pu,.ld 0 0,.v (fun gh=>.tuple #[Vi (i:Int),Vi 0]),.pu,.pu,.pu,.pu,.pu] [] (trivial) ?_ ?_
  ·intro R hT hA hmono
   refine And.intro (t_p hT hA (fun gh=>.slice (some ⟨b9,o10,none⟩) k c) (fun gh w=>run_hi (t:=30) (e:=46) (x:=(.tmp 27)) (y:=(.tmp 28)) (A:=(some ⟨b9,o10,none⟩)) (n:=fs.length) (cap:=c) (k:=k) (kk:=9) (by kernel_rfl) (by kernel_rfl) (by kernel_rfl) (by omega) Tryz.underlying30 (by kernel_rfl))) ?_
   refine And.intro (t_v hT hA hmono (k:=104) (args:=(fun gh=>#[.slice (some ⟨b9,o10,none⟩) k c,.string f.name])) (f:=fun gh=>.tuple #[Vi (i:Int),Vi 0]) (fun gh H sH fH lent=>find_yes (fs.take k) _ f.name i _ (htk.sees (S2.trans sH)) (by rw [List.length_take]; omega) hfn)) ?_
   trivial
  rintro W13 S14 -
  refine go0 16 [] [] ?_
  refine lQ ?_
  refine go0 2 [] [] ?_
  refine hQ.to [Vi 6] (fun H sH=>?_)
  exact rfl
theorem shCheck_twin (f:Fm) (A:Option Addr) (n c:Nat) (B:Option Addr) (m d:Nat) (h:Vw) (hC:∀ H,IsFds H (.slice A n c) f.fields→C0 Tryz.prog 97 #[.slice A n c] H (fun r _=>r=.int .i64 6)) (hf:IsForm h (.slice A n c) (.slice B m d) f) :
  C0 Tryz.prog 36 #[.agg #[.slice A n c,.slice B m d]] h (fun r _=>r=.int .i64 6):=by
 have hR:∀ H,IsFds H (.slice A n c) f.fields→C0 Tryz.prog 70 #[.slice A n c] H (fun r _=>r=.tuple #[.slice none 0 0,.slice none 0 0,.int .i64 6]):=fun H hq=>by
  refine fQ Tryz.func70 (c:=Tryz.f70.body.getD .skip) (N:=42) ?_
  intro hbx hbad Q hQ
  refine go0 32 [.cl 97 #[.slice A n c] (Vi 6)] [] ?_ (ho:=(And.intro (fun H sH=>hC _ (hq.sees sH)) (trivial)))
  refine hQ.to [Vz,Vz,Vi 6] (fun H sH=>?_)
  exact rfl
 have hff:=hf.fields
 refine fQ Tryz.func36 (c:=Tryz.f36.body.getD .skip) (N:=21) ?_
 intro hbx hbad Q hQ
 refine go1 36 [.own,.b 0 0,.cl 70 #[.slice A n c] (.tuple #[Vz,Vz,Vi 6])] [] ?_ (ho:=(And.intro (fun H sH=>hR _ (hff.sees sH)) (trivial)))
 intro b1
 refine hQ.to [Vi 6] (fun H sH=>?_)
 exact rfl
set_option maxHeartbeats 8000000 in
theorem pgCheck_twin (fs:List Fd) (fv:Value) (l:List Pg) (v:Value) (h:Vw) (t:Nat) (pt:Pg) (htp0:l[t]?=some pt) (i:Nat) (hfi:findG (l.take t) pt.name=i) (hok:OkGs fs (l.take t)) (hap:∀ p∈l,oJ p.name.data.toList∧p.fields.length≤100) (few:l.length≤6) (hp:IsPgs h v l) (hfs:IsFds h fv fs) (hfl:fs.length≤1000):C0 Tryz.prog 71 #[v,fv] h (fun r _=>r=.int .i64 6):=by
 have htl:=(List.getElem?_eq_some_iff.1 htp0).1
 obtain ⟨us,vs,A,cap,rfl,hcap,hr,hs,ha,hul,hvl⟩:=pgs_open hp
 have hlc:l.length≤cap:=by
  obtain ⟨A',c',e',h1,-,-⟩:=hr.form
  rw [pW hul hvl] at h1
  simp only [Value.slice.injEq] at e'
  omega
 obtain ⟨-,Af,cf,rfl,-,-,-,-,-,-⟩:=uK hfs
 have one:1≤l.length:=by omega
 have hat:=fun i p hp=>pg_at (i:=i) (p:=p) hs ha hp
 have htk:=fun k hk=>pgs_take (h:=h) (A:=A) (cap:=cap) (l:=l) hp k hk
 have hFi:=fun H s q=>findP_any fs (.slice Af fs.length cf) s H q (by omega)
 have hGf:=fun k H s q=>gFind_any (l.take k) (.slice A k cap) s H q (by rw [List.length_take]; omega) (fun p hp=>by have:=(hap p (List.mem_of_mem_take hp)).2; omega)
 generalize hL:l.length=len at *
 generalize hM:fs.length=fl at *
 refine fQ Tryz.func71 (c:=Tryz.f71.body.getD .skip) (N:=82) ?_
 intro hbx hbad Q hQ
 refine go0 35 [] [(18,.bool (decide ((len:Int) < 1)),.bool false),(22,.bool (decide ((len:Int) > 6)),.bool false)] ?_ (hc:=(And.intro (congrArg Value.bool (decide_eq_false (by omega))) (And.intro (congrArg Value.bool (decide_eq_false (by omega))) (trivial))))
 refine oQ 9 1 ?_
 refine mQ [0,1,0,1,1,1] [.block 0,.seq [1,1,1,1]] (fun (k:Nat) X=>∃ (W1:Vw) (mv:Value),X W1 [(0,.slice A len cap),(1,.slice Af fl cf),(24,.slice A len cap),(25,Vi (len:Int)),(26,Vi (k:Int)),(5,mv)] [.row mv 9 1 (eY ((l.take k).flatMap (·.fields)))] []∧Sees h W1∧(k≤t)) (fun k=>len - k) (0) (fun X q=>⟨h,(Vz),q _ _ _ _ ⟨rfl,by kernel_rfl⟩,Sees.refl _,Nat.zero_le _⟩) ?_
 rintro k a w ⟨W1,mv,hJ,S2,hk⟩; refine pQ hJ ?_; clear hJ a w
 refine go0 6 [] [] ?_
 obtain ⟨p,hpk⟩:∃ p,l[k]?=some p:=⟨_,List.getElem?_eq_getElem (by omega)⟩
 have hpm:=List.mem_of_getElem? hpk
 obtain ⟨Au,cu,Bu,mu,du,hrow,hrs,hxa⟩:=hat k p hpk
 have hnm:=(hap p hpm).1
 have htp:=htk k (by omega)
 rcases (by omega:k < t∨k=t) with hlt | hke
 ·have hpt:p∈l.take t:=List.mem_of_getElem? (i:=k) (by rw [List.getElem?_take_of_lt hlt,hpk])
  have hno:findG (l.take k) p.name = -1:=fidx_none _ _ fun y hy=>tl_no fun e=>by
   obtain ⟨j,hj⟩:=List.mem_iff_getElem?.1 hy
   rw [List.getElem?_take] at hj
   split at hj
   ·rename_i hjk
    have h1:((l.take t).map (fun p:Pg=>p.name))[j]?=some p.name:=by rw [List.getElem?_map,List.getElem?_take_of_lt (by omega),hj]; simp [e]
    have h2:((l.take t).map (fun p:Pg=>p.name))[k]?=some p.name:=by rw [List.getElem?_map,List.getElem?_take_of_lt hlt,hpk]; rfl
    have:=(List.getElem?_inj (by rw [List.length_map,List.length_take]; omega) hok.nodup).1 (h1.trans h2.symm)
    omega
   ·cases hj
  have hGk:=fun H q=>hGf k H p.name q
  rw [hno] at hGk
  have hfk:=(hap p hpm).2
  have hhere:=hok.here p hpt
  have hsn:(l.take (k + 1)).flatMap (fun p:Pg=>p.fields)=(l.take k).flatMap (fun p:Pg=>p.fields)++p.fields:=by rw [jY l k p hpk,List.flatMap_append]; simp
  have hone:((l.take k).flatMap (fun p:Pg=>p.fields)++p.fields).Nodup:=by
   rw [← hsn]
   have ho:=hok.once
   have e0:l.take (k + 1)=(l.take t).take (k + 1):=by rw [List.take_take,Nat.min_eq_left (by omega)]
   have e:(l.take t).flatMap (fun p:Pg=>p.fields)=(l.take (k + 1)).flatMap (fun p:Pg=>p.fields)++((l.take t).drop (k + 1)).flatMap (fun p:Pg=>p.fields):=by rw [← List.flatMap_append,e0,List.take_append_drop]
   rw [e] at ho
   exact (List.nodup_append.1 ho).1
  have hdl:((l.take k).flatMap (fun p:Pg=>p.fields)).length≤600:=by
   have key:∀ m:List Pg,(∀ p∈m,p.fields.length≤100)→(m.flatMap (fun p:Pg=>p.fields)).length≤100 * m.length:=by
    intro m
    induction m with
    | nil=>intro _; simp
    | cons q m ih =>
     intro hm
     have h1:=hm q (by simp)
     have h2:=ih fun z hz=>hm z (by simp [hz])
     rw [List.flatMap_cons,List.length_append,List.length_cons]
     omega
   have:=key (l.take k) fun q hq=>(hap q (List.mem_of_mem_take hq)).2
   rw [List.length_take] at this
   omega
  have hskip:=hok.skip p hpt
  generalize (l.take k).flatMap (fun p:Pg=>p.fields)=dn at *
  refine wQ (t:=decide ((k:Int) < (len:Int))) (decide_eq_true (by omega)) ?_
  refine go0 7 [] [] ?_
  obtain ⟨b3,o4,rfl,-,c5⟩:=RS.row hr (hrow)
  refine gQ (c5.sees S2) ?_
  refine go1 27 [.ix b3 o4 len cap k,.f 0 0,.own,.b 0 0,.b 0 0,.cl 65 #[.string p.name] (Vi 0)] [] ?_ (ho:=(And.intro (by first | omega | (simp; omega)) (And.intro (fun H sH=>c_name _ _ hnm) (trivial))))
  intro b6
  refine tQ 11 0 [.pu,.pu,.v (fun gh=>.slice (some ⟨b3,o4,none⟩) k cap),.pu,.ld 0 0,.v (fun gh=>.tuple #[Vi 0,Vi 5]),.pu,.pu,.pu,.pu,.pu] [] (trivial) ?_ ?_
  ·intro R hT hA hmono
   refine And.intro (t_p hT hA (fun gh=>.slice (some ⟨b3,o4,none⟩) k cap) (fun gh w=>run_hi (t:=39) (e:=80) (x:=(.tmp 38)) (y:=(.tmp 39)) (A:=(some ⟨b3,o4,none⟩)) (n:=len) (cap:=cap) (k:=k) (kk:=8) (by kernel_rfl) (by kernel_rfl) (by kernel_rfl) (by omega) Tryz.underlying39 (by kernel_rfl))) ?_
   refine And.intro (t_v hT hA hmono (k:=103) (args:=(fun gh=>#[.slice (some ⟨b3,o4,none⟩) k cap,.string p.name])) (f:=fun gh=>.tuple #[Vi 0,Vi 5]) (fun gh H sH fH lent=>hGk _ (htp.sees (S2.trans sH)))) ?_
   trivial
  rintro W7 S8 -
  refine go0 20 [.b 0 1] [] ?_
  have hd0:eY dn=eY (dn++p.fields.take 0):=by simp
  rw [hd0]
  refine mQ [0,1,0,1,1,1,0,0,1,1,0,0,1,0,1,1,1] [.block 2,.seq [1,1,1,1,0,0,1,1,0,0,1,0,1,1,1],.block 1,.seq [1,1,1,0,0,1,0,1,1,1]] (fun (j:Nat) X=>∃ (W9:Vw) (nv:Value),X W9 [(0,.slice (some ⟨b3,o4,none⟩) len cap),(1,.slice Af fl cf),(24,.slice (some ⟨b3,o4,none⟩) len cap),(25,Vi (len:Int)),(26,Vi (k:Int)),(7,Vp b6),(49,.slice Au p.fields.length cu),(50,Vi (p.fields.length:Int)),(51,Vi (j:Int)),(5,nv)] [.box b6 [.string p.name,.slice Au p.fields.length cu,Vi p.skip.op,Vi p.skip.k,Vi p.skip.n,.string p.skip.s,.string p.skip.nm,.slice Bu mu du],.row nv 9 1 (eY (dn++p.fields.take j))] [(b3,o4 + k * 8,[.string p.name,.slice Au p.fields.length cu,Vi p.skip.op,Vi p.skip.k,Vi p.skip.n,.string p.skip.s,.string p.skip.nm,.slice Bu mu du])]∧Sees W7 W9∧(j≤p.fields.length)) (fun j=>p.fields.length - j) (0) (fun X q=>⟨W7,mv,q _ _ _ _ ⟨rfl,by kernel_rfl⟩,Sees.refl _,Nat.zero_le _⟩) ?_
  rintro j a w ⟨W9,nv,hJ,S10,hj⟩; refine pQ hJ ?_; clear hJ a w
  refine go0 6 [] [] ?_
  rcases (by omega:j < p.fields.length∨j=p.fields.length) with hjl | hje
  ·obtain ⟨s,hsj⟩:∃ s,p.fields[j]?=some s:=⟨_,List.getElem?_eq_getElem hjl⟩
   have hsr:=str_row hsj
   have hse:vK fs s=((plc fs s:Nat):Int):=by have:=hhere s (List.mem_of_getElem? hsj); unfold plc; omega
   have hFs:=fun H q=>hFi H s q
   rw [if_neg (by omega)] at hFs
   have hjn:=jY _ j s hsj
   have hnin:memS (dn++p.fields.take j) s=false:=by
    rw [Bool.eq_false_iff]
    intro q
    have q:=memS_iff.1 q
    rcases List.mem_append.1 q with q | q
    ·exact (List.nodup_append.1 hone).2.2 s q s (List.mem_of_getElem? hsj) rfl
    ·have hd:=(List.nodup_append.1 hone).2.1
     obtain ⟨i,hi⟩:=List.mem_iff_getElem?.1 q
     rw [List.getElem?_take] at hi
     split at hi
     ·have:=(List.getElem?_inj (by omega) hd).1 (hi.trans hsj.symm); omega
     ·cases hi
   have hco:=fun H u q=>contS_any (dn++p.fields.take j) u s H q (by rw [List.length_append,List.length_take]; omega)
   rw [hnin] at hco
   refine wQ (t:=decide ((j:Int) < (p.fields.length:Int))) (decide_eq_true (by omega)) ?_
   refine go0 6 [] [] ?_
   obtain ⟨b11,o12,rfl,-,c13⟩:=RS.row hrs (hsr)
   refine gQ (c13.sees (S2.trans (S8.trans S10))) ?_
   refine go0 32 [.ix b11 o12 p.fields.length cu j,.f 0 0,.cl 104 #[.slice Af fl cf,.string s] (.tuple #[Vi ((plc fs s:Nat):Int),Vi 0])] [] ?_ (ho:=(And.intro (by first | omega | (simp; omega)) (And.intro (fun H sH=>hFs _ (hfs.sees (S2.trans (S8.trans (S10.trans sH))))) (trivial))))
   refine g_callq (fun a w hJ=>hco _ _ (hJ.j.rowQ (v:=nv) (e:=9) (k:=1) (l:=eY (dn++p.fields.take j)) 1 (by kernel_rfl))) ?_; intro W14 S15
   refine aV 9 [.fix] [] ?_
   intro b16 W17 S18
   refine goa0 9 [.ap 1 0 (eY (dn++p.fields.take j)) [[.string s]]] [(71,Vi (IntKind.i64.wrap ((j:Int) + 1)),Vi ((j:Int) + 1))] ?_ (ho:=(And.intro (by constructor <;> (simp; omega)) (trivial))) (hc:=(And.intro (jJ (by omega) (by omega)) (trivial)))
   intro v70 W19 S20
   refine kQ [(0,.slice (some ⟨b3,o4,none⟩) len cap),(1,.slice Af fl cf),(24,.slice (some ⟨b3,o4,none⟩) len cap),(25,Vi (len:Int)),(26,Vi (k:Int)),(7,Vp b6),(49,.slice (some ⟨b11,o12,none⟩) p.fields.length cu),(50,Vi (p.fields.length:Int)),(5,.slice (sA v70) (sN v70) (sC v70)),(51,Vi ((j:Int) + 1))] [.box b6 [.string p.name,.slice (some ⟨b11,o12,none⟩) p.fields.length cu,Vi p.skip.op,Vi p.skip.k,Vi p.skip.n,.string p.skip.s,.string p.skip.nm,.slice Bu mu du],.row (.slice (sA v70) (sN v70) (sC v70)) 9 1 ((eY (dn++p.fields.take j))++[[.string s]])] [(b3,o4 + k * 8,[.string p.name,.slice (some ⟨b11,o12,none⟩) p.fields.length cu,Vi p.skip.op,Vi p.skip.k,Vi p.skip.n,.string p.skip.s,.string p.skip.nm,.slice Bu mu du])] ?_
   exact vQ (j + 1) (fun X q=>⟨W19,.slice (sA v70) (sN v70) (sC v70),q _ _ _ _ (qX (by rw [hjn,← List.append_assoc]; simp [eY])),(S10.trans (S15.trans (S18.trans S20))),by omega⟩) (by omega)
  ·skip
   have hta:dn++p.fields.take j=dn++p.fields:=by rw [hje,List.take_length]
   rw [hta]
   rcases hskip with hz | ⟨z1,z2,z3,z4⟩
   ·obtain ⟨Bz,dz,ez⟩:=args_zero (by rw [hz]; rfl) hxa
    obtain rfl:mu=0:=by simp only [Value.slice.injEq] at ez; exact ez.2.1
    have hnv:=fun H=>never_yes p.name Au p.fields.length cu Bu du H
    refine iQ (t:=decide ((j:Int) < (p.fields.length:Int))) (decide_eq_false (by omega)) ?_
    refine go0 2 [] [] ?_
    refine lQ ?_
    refine go0 18 [.b 0 0,.cl 72 #[.agg #[.string p.name,.slice Au p.fields.length cu,Vi p.skip.op,Vi p.skip.k,Vi p.skip.n,.string p.skip.s,.string p.skip.nm,.slice Bu 0 du]] (.bool true)] [(81,Vi (IntKind.i64.wrap ((k:Int) + 1)),Vi ((k:Int) + 1))] ?_ (ho:=(And.intro (fun H sH=>by rw [hz]; exact hnv _) (trivial))) (hc:=(And.intro (jJ (by omega) (by omega)) (trivial)))
    refine kQ [(0,.slice (some ⟨b3,o4,none⟩) len cap),(1,.slice Af fl cf),(24,.slice (some ⟨b3,o4,none⟩) len cap),(25,Vi (len:Int)),(5,nv),(26,Vi ((k:Int) + 1))] [.row nv 9 1 (eY (dn++p.fields))] [] ?_
    exact vQ (k + 1) (fun X q=>⟨W9,nv,q _ _ _ _ (qX (by rw [hsn]; try rfl)),(S2.trans (S8.trans S10)),by omega⟩) (by omega)
   ·skip
    have hnv:=fun H=>never_no p.name p.skip Au p.fields.length cu Bu mu du H z1
    have hft:=fun H q1 q2=>fits_any fs p.skip (.slice Bu mu du) (.slice Af fl cf) 2 H q1 z2 z3 q2
    rw [z4] at hft
    refine iQ (t:=decide ((j:Int) < (p.fields.length:Int))) (decide_eq_false (by omega)) ?_
    refine go0 2 [] [] ?_
    refine lQ ?_
    refine go0 35 [.b 0 0,.cl 72 #[.agg #[.string p.name,.slice Au p.fields.length cu,Vi p.skip.op,Vi p.skip.k,Vi p.skip.n,.string p.skip.s,.string p.skip.nm,.slice Bu mu du]] (.bool false),.b 0 2,.cl 106 #[.agg #[Vi p.skip.op,Vi p.skip.k,Vi p.skip.n,.string p.skip.s,.string p.skip.nm,.slice Bu mu du],.slice Af fl cf,Vi 2] (Vi 0)] [(81,Vi (IntKind.i64.wrap ((k:Int) + 1)),Vi ((k:Int) + 1))] ?_ (ho:=(And.intro (fun H sH=>hnv _) (And.intro (fun H sH=>hft _ (hxa.sees (S2.trans (S8.trans (S10.trans sH)))) (hfs.sees (S2.trans (S8.trans (S10.trans sH))))) (trivial)))) (hc:=(And.intro (jJ (by omega) (by omega)) (trivial)))
    refine kQ [(0,.slice (some ⟨b3,o4,none⟩) len cap),(1,.slice Af fl cf),(24,.slice (some ⟨b3,o4,none⟩) len cap),(25,Vi (len:Int)),(5,nv),(26,Vi ((k:Int) + 1))] [.row nv 9 1 (eY (dn++p.fields))] [] ?_
    exact vQ (k + 1) (fun X q=>⟨W9,nv,q _ _ _ _ (qX (by rw [hsn]; try rfl)),(S2.trans (S8.trans S10)),by omega⟩) (by omega)
 ·skip
  have hfn:findG (l.take k) p.name=i:=by
   have e:some p=some pt:=by rw [← hpk,hke,htp0]
   rw [hke,Option.some.inj e]; exact hfi
  have hGk:=fun H q=>hGf k H p.name q
  rw [hfn,if_neg (by omega),if_neg (by omega)] at hGk
  refine wQ (t:=decide ((k:Int) < (len:Int))) (decide_eq_true (by omega)) ?_
  refine go0 7 [] [] ?_
  obtain ⟨b21,o22,rfl,-,c23⟩:=RS.row hr (hrow)
  refine gQ (c23.sees S2) ?_
  refine go1 27 [.ix b21 o22 len cap k,.f 0 0,.own,.b 0 0,.b 0 0,.cl 65 #[.string p.name] (Vi 0)] [] ?_ (ho:=(And.intro (by first | omega | (simp; omega)) (And.intro (fun H sH=>c_name _ _ hnm) (trivial))))
  intro b24
  refine tQ 11 0 [.pu,.pu,.v (fun gh=>.slice (some ⟨b21,o22,none⟩) k cap),.pu,.ld 0 0,.v (fun gh=>.tuple #[Vi (i:Int),Vi 0]),.pu,.pu,.pu,.pu,.pu] [] (trivial) ?_ ?_
  ·intro R hT hA hmono
   refine And.intro (t_p hT hA (fun gh=>.slice (some ⟨b21,o22,none⟩) k cap) (fun gh w=>run_hi (t:=39) (e:=80) (x:=(.tmp 38)) (y:=(.tmp 39)) (A:=(some ⟨b21,o22,none⟩)) (n:=len) (cap:=cap) (k:=k) (kk:=8) (by kernel_rfl) (by kernel_rfl) (by kernel_rfl) (by omega) Tryz.underlying39 (by kernel_rfl))) ?_
   refine And.intro (t_v hT hA hmono (k:=103) (args:=(fun gh=>#[.slice (some ⟨b21,o22,none⟩) k cap,.string p.name])) (f:=fun gh=>.tuple #[Vi (i:Int),Vi 0]) (fun gh H sH fH lent=>hGk _ (htp.sees (S2.trans sH)))) ?_
   trivial
  rintro W25 S26 -
  refine go0 17 [] [] ?_
  refine lQ ?_
  refine go0 2 [] [] ?_
  refine hQ.to [Vi 6] (fun H sH=>?_)
  exact rfl
theorem shCheck_twinP (f:Fm) (ρ:List Int) (lv:Nat→Nat) (A:Option Addr) (n c:Nat) (B:Option Addr) (m d:Nat) (h:Vw) (hok:OkFs f.fields) (hrk:Ranked (vV f.fields) ρ lv) (hn:n=f.fields.length) (hP:∀ H,IsPgs H (.slice B m d) f.pages→IsFds H (.slice A n c) f.fields→C0 Tryz.prog 71 #[.slice B m d,.slice A n c] H (fun r _=>r=.int .i64 6)) (hf:IsForm h (.slice A n c) (.slice B m d) f) :
  C0 Tryz.prog 36 #[.agg #[.slice A n c,.slice B m d]] h (fun r _=>r=.int .i64 6):=by
 have hR:=fun H q=>rankOf_any f.fields (.slice A n c) H hok q ρ lv hrk
 rw [← hn] at hR
 refine fQ Tryz.func36 (c:=Tryz.f36.body.getD .skip) (N:=21) ?_
 intro hbx hbad Q hQ
 refine go1 11 [.own,.b 0 0] [] ?_
 intro b1
 refine bQ (fun H sH=>hR _ ((hf.sees sH)).fields) ?_; rintro _ W2 S3 ⟨b,rfl,hro⟩
 refine go0 24 [.b 0 1,.b 0 0] [] ?_
 refine go0 5 [.cl 71 #[.slice B m d,.slice A n c] (Vi 6)] [] ?_ (ho:=(And.intro (fun H sH=>hP _ ((hf.sees (S3.trans sH))).pages ((hf.sees (S3.trans sH))).fields) (trivial)))
 refine hQ.to [Vi 6] (fun H sH=>?_)
 exact rfl
end Go.Proofs.YthplkompdehjlaaGreatDoor
namespace Go.Proofs.YthplkompdehjlaaGreatDoor
open Go.RowKit
set_option linter.unusedVariables false
def dupF (fm:Fm) (i:Nat) (f:Fd):Fm:=⟨fm.fields.take i++f :: fm.fields.drop i,fm.pages⟩
def dupP (fm:Fm) (i:Nat) (p:Pg):Fm:=⟨fm.fields,fm.pages.take i++p :: fm.pages.drop i⟩
theorem lnF_dupF {fm:Fm} {i:Nat} {f:Fd} (h:fm.fields[i]?=some f):lnF (dupF fm i f)=(lnF fm).take i++fdL f :: (lnF fm).drop i:=by
 obtain ⟨hi,-⟩:=List.getElem?_eq_some_iff.1 h
 unfold lnF dupF
 simp only
 rw [List.take_append_of_le_length (by rw [List.length_map]; omega),List.drop_append_of_le_length (by rw [List.length_map]; omega),List.map_append,List.map_cons,List.map_take,List.map_drop]
 simp
theorem lnF_dupP {fm:Fm} {i:Nat} {p:Pg}:lnF (dupP fm i p)=(lnF fm).take (fm.fields.length + i)++(pgW++pgL p) :: (lnF fm).drop (fm.fields.length + i):=by
 unfold lnF dupP
 simp only
 have e:fm.fields.length=(fm.fields.map fdL).length:=by rw [List.length_map]
 rw [e,List.take_length_add_append,List.drop_length_add_append,List.map_append,List.map_cons,List.map_take,List.map_drop]
 simp
theorem mem_dup {α:Type} {l:List α} {i:Nat} {x y:α} (hx:l[i]?=some x) (hy:y∈l.take i++x :: l.drop i):y∈l:=by
 rcases List.mem_append.1 hy with q | q
 ·exact List.mem_of_mem_take q
 ·rcases List.mem_cons.1 q with rfl | q
  ·exact List.mem_of_getElem? hx
  ·exact List.mem_of_mem_drop q
theorem dup_mem {α:Type} {l:List α} {i:Nat} {x y:α} (hy:y∈l):y∈l.take i++x :: l.drop i:=by
 rw [← List.take_append_drop i l] at hy
 rcases List.mem_append.1 hy with q | q
 ·exact List.mem_append_left _ q
 ·exact List.mem_append_right _ (List.mem_cons_of_mem _ q)
theorem len_dup {α:Type} {l:List α} {i:Nat} {x:α} (hx:l[i]?=some x):(l.take i++x :: l.drop i).length=l.length + 1:=by
 obtain ⟨hi,-⟩:=List.getElem?_eq_some_iff.1 hx
 rw [List.length_append,List.length_cons,List.length_take,List.length_drop]; omega
theorem take_dup {α:Type} {l:List α} {i:Nat} {x:α} (hx:l[i]?=some x):(l.take i++x :: l.drop i).take (i + 1)=l.take (i + 1):=by
 obtain ⟨hi,-⟩:=List.getElem?_eq_some_iff.1 hx
 have e:i + 1=(l.take i).length + 1:=by rw [List.length_take]; omega
 rw [jY l i x hx]
 conv=>lhs; rw [e]
 rw [List.take_length_add_append]; rfl
theorem get_dup {α:Type} {l:List α} {i:Nat} {x:α} (hx:l[i]?=some x):(l.take i++x :: l.drop i)[i + 1]?=some x:=by
 obtain ⟨hi,-⟩:=List.getElem?_eq_some_iff.1 hx
 rw [List.getElem?_append_right (by rw [List.length_take]; omega),List.length_take,Nat.min_eq_left (by omega),Nat.add_sub_cancel_left,List.getElem?_cons_succ,List.getElem?_drop,Nat.add_zero,hx]
theorem dupF_r {fm:Fm} {ρ:List Int} {lv:Nat→Nat} (hok:OkFm fm ρ lv) (hw:FmW fm) {i:Nat} {f:Fd} (h:fm.fields[i]?=some f):FmR (dupF fm i f) :=
 ⟨fun g hg=>⟨_,hok.fields.each g (mem_dup h hg)⟩,fun g hg=>hw.fd g (mem_dup h hg),hw.pg⟩
theorem dupP_r {fm:Fm} {ρ:List Int} {lv:Nat→Nat} (hok:OkFm fm ρ lv) (hw:FmW fm) {i:Nat} {p:Pg} (h:fm.pages[i]?=some p):FmR (dupP fm i p) :=
 ⟨fun g hg=>⟨_,hok.fields.each g hg⟩,fun g hg=>hw.fd g hg,fun q hq=>hw.pg q (mem_dup h hq)⟩
theorem read_twinF (fm:Fm) (ρ:List Int) (lv:Nat→Nat) (h:Vw) (lk:Lk h) (hok:OkFm fm ρ lv) (hw:FmW fm) (few:fm.fields.length≤13) (i:Nat) (f:Fd) (hi:fm.fields[i]?=some f) :
  C0 Tryz.prog 14 #[.string (mkB (Lib.join ((lnF fm).take i++fdL f :: (lnF fm).drop i) [10]))] h (fun r _=>(((∃ f∈fm.fields,pK f)∨∃ p∈fm.pages,lW p)∧∃ n,r=.tuple #[.agg #[.slice none 0 0,.slice none 0 0],.int .i64 n,.int .i64 1])∨(¬ ((∃ f∈fm.fields,pK f)∨∃ p∈fm.pages,lW p))∧r=.tuple #[.agg #[.slice none 0 0,.slice none 0 0],.int .i64 0,.int .i64 6]):=by
 have hil:=(List.getElem?_eq_some_iff.1 hi).1
 have fewp:=hok.pages.few
 have hlen:(dupF fm i f).fields.length=fm.fields.length + 1:=len_dup hi
 have hfn:vK ((dupF fm i f).fields.take (i + 1)) f.name=i:=by
  have e:(dupF fm i f).fields.take (i + 1)=fm.fields.take (i + 1):=take_dup hi
  rw [e]
  refine findF_at ?_ (by rw [List.getElem?_take_of_lt (by omega)]; exact hi)
  rw [List.map_take]
  exact hok.fields.nodup.sublist (List.take_sublist _ _)
 rw [← lnF_dupF hi]
 refine (read_all6 (dupF fm i f) 6 h lk (dupF_r hok hw hi) (by omega) (by rw [hlen]; show fm.fields.length + 1 + fm.pages.length≤20; omega) (by decide) (fun A n c B m d H q e=>shCheck_twin (dupF fm i f) A n c B m d H (fun H q=>check_twin (dupF fm i f).fields _ H (dupF_r hok hw hi).fd (by omega) (i + 1) i (by omega) ?_ f (get_dup hi) hfn q) q)).mono fun v h' _ k=>?_
 ·have e:(dupF fm i f).fields.take (i + 1)=fm.fields.take (i + 1):=take_dup hi
  rw [e,List.map_take]
  exact hok.fields.nodup.sublist (List.take_sublist _ _)
 ·rcases k with ⟨k | k,k2⟩ | ⟨m1,m2,k⟩
  ·obtain ⟨g,g1,g2⟩:=k
   exact .inl ⟨.inl ⟨g,mem_dup hi g1,g2⟩,k2⟩
  ·exact .inl ⟨.inr k,k2⟩
  ·exact .inr ⟨fun q=>q.elim (fun ⟨g,g1,g2⟩=>m1 g (dup_mem g1) g2) (fun ⟨g,g1,g2⟩=>m2 g g1 g2),k⟩
theorem read_twinP (fm:Fm) (ρ:List Int) (lv:Nat→Nat) (h:Vw) (lk:Lk h) (hok:OkFm fm ρ lv) (hw:FmW fm) (n1:1≤fm.fields.length) (few:fm.pages.length≤5) (i:Nat) (p:Pg) (hi:fm.pages[i]?=some p) :
  C0 Tryz.prog 14 #[.string (mkB (Lib.join ((lnF fm).take (fm.fields.length + i)++(pgW++pgL p) :: (lnF fm).drop (fm.fields.length + i)) [10]))] h (fun r _=>(((∃ f∈fm.fields,pK f)∨∃ p∈fm.pages,lW p)∧∃ n,r=.tuple #[.agg #[.slice none 0 0,.slice none 0 0],.int .i64 n,.int .i64 1])∨(¬ ((∃ f∈fm.fields,pK f)∨∃ p∈fm.pages,lW p))∧r=.tuple #[.agg #[.slice none 0 0,.slice none 0 0],.int .i64 0,.int .i64 6]):=by
 have hil:=(List.getElem?_eq_some_iff.1 hi).1
 have fewf:=hok.fields.few
 have hlen:(dupP fm i p).pages.length=fm.pages.length + 1:=len_dup hi
 have et:(dupP fm i p).pages.take (i + 1)=fm.pages.take (i + 1):=take_dup hi
 have hnd:((fm.pages.take (i + 1)).map (·.name)).Nodup:=by
  rw [List.map_take]
  exact hok.pages.nodup.sublist (List.take_sublist _ _)
 have hgi:(fm.pages.take (i + 1))[i]?=some p:=by rw [List.getElem?_take_of_lt (by omega)]; exact hi
 have hfn:findG ((dupP fm i p).pages.take (i + 1)) p.name=i:=by
  rw [et]
  refine fidx_found _ _ i p (fun y hy=>?_) hgi (tl_yes rfl)
  refine tl_no fun e=>?_
  obtain ⟨j,hj⟩:=List.mem_iff_getElem?.1 hy
  rw [List.getElem?_take] at hj
  split at hj
  ·rename_i hji
   have h1:((fm.pages.take (i + 1)).map (fun p:Pg=>p.name))[j]?=some p.name:=by rw [List.getElem?_map,hj]; simp [e]
   have h2:((fm.pages.take (i + 1)).map (fun p:Pg=>p.name))[i]?=some p.name:=by rw [List.getElem?_map,hgi]; rfl
   have:=(List.getElem?_inj (by rw [List.length_map,List.length_take]; omega) hnd).1 (h1.trans h2.symm)
   omega
  ·cases hj
 have hG:OkGs fm.fields ((dupP fm i p).pages.take (i + 1)):=by
  rw [et]
  have hm:∀ q∈fm.pages.take (i + 1),q∈fm.pages:=fun q hq=>List.mem_of_mem_take hq
  refine ⟨by rw [List.length_take]; omega,by rw [List.length_take]; omega,fun q hq=>hok.pages.name q (hm q hq),hnd,fun q hq=>hok.pages.fl q (hm q hq),fun q hq=>hok.pages.here q (hm q hq),?_,fun q hq=>hok.pages.skip q (hm q hq)⟩
  have ho:=hok.pages.once
  have e:fm.pages.flatMap (fun p:Pg=>p.fields)=(fm.pages.take (i + 1)).flatMap (fun p:Pg=>p.fields)++(fm.pages.drop (i + 1)).flatMap (fun p:Pg=>p.fields):=by rw [← List.flatMap_append,List.take_append_drop]
  rw [e] at ho
  exact (List.nodup_append.1 ho).1
 have hap:∀ q∈(dupP fm i p).pages,oJ q.name.data.toList∧q.fields.length≤100:=fun q hq=>⟨hok.pages.name q (mem_dup hi hq),hok.pages.fl q (mem_dup hi hq)⟩
 rw [← lnF_dupP]
 refine (read_all6 (dupP fm i p) 6 h lk (dupP_r hok hw hi) n1 (by rw [hlen]; show fm.fields.length + (fm.pages.length + 1)≤20; omega) (by decide) (fun A n c B m d H q e=>shCheck_twinP (dupP fm i p) ρ lv A n c B m d H hok.fields hok.rank e (fun H q1 q2=>pgCheck_twin fm.fields _ (dupP fm i p).pages _ H (i + 1) p (get_dup hi) i hfn hG hap (by omega) q1 q2 (by omega)) q)).mono fun v h' _ k=>?_
 rcases k with ⟨k | k,k2⟩ | ⟨m1,m2,k⟩
 ·exact .inl ⟨.inl k,k2⟩
 ·obtain ⟨g,g1,g2⟩:=k
  exact .inl ⟨.inr ⟨g,mem_dup hi g1,g2⟩,k2⟩
 ·exact .inr ⟨fun q=>q.elim (fun ⟨g,g1,g2⟩=>m1 g g1 g2) (fun ⟨g,g1,g2⟩=>m2 g (dup_mem g1) g2),k⟩
end Go.Proofs.YthplkompdehjlaaGreatDoor
