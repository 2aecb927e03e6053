/-
  names.Of: the fields that a formula asks for, each once, rising. (Imports the seat's Iter text: wip/iter.sh.)
-/
import Derived.Test.YthplkompdehjlaaGreatDoorZT37
import Derived.Test.YthplkompdehjlaaGreatDoorZT19
import Derived.Test.YthplkompdehjlaaGreatDoorZT43
import Derived.Test.YthplkompdehjlaaGreatDoorZT9
import Derived.Test.YthplkompdehjlaaGreatDoorZT5
import Derived.Test.YthplkompdehjlaaGreatDoorZT42
import Derived.Test.YthplkompdehjlaaGreatDoorZT40
set_option maxRecDepth 100000
namespace Go.Proofs.YthplkompdehjlaaGreatDoor
open Go.RowKit Go.Shelf Go.Maps Go.Sort
attribute [local go_sem] Oper.semAt_some
theorem key_iff {s:ByteArray}:∀ {l:List (ByteArray × Value)},s∈l.map (·.1)↔sget s l≠none
 | []=>by simp [sget]
 | (k,v) :: l=>by
  rw [List.map_cons,List.mem_cons,key_iff (l:=l)]
  rw [show sget s ((k,v) :: l)=if s == k then some v else sget s l from rfl]
  by_cases e:(s == k)=true
  ·rw [if_pos e]
   exact ⟨fun _=>Option.some_ne_none v,fun _=>.inl ((Go.MapKept.bytes_beq s k).1 e)⟩
  ·rw [if_neg e]
   exact ⟨fun h=>h.elim (fun q=>absurd ((Go.MapKept.bytes_beq s k).2 q) e) (fun q=>q),.inr⟩
def MetAt (W:World) (M:Nat) (pre:List ByteArray):Prop:=∃ l,W.heap[M]?=some (aV (jX l))∧(∀ s,s∈l.map (·.1)↔s∈pre)∧(l.map (·.1)).Nodup∧∀ p∈l,p.2=.bool true
theorem met_nil {W:World} {M:Nat} (h:W.heap[M]?=some (aV (jX []))):MetAt W M []:=⟨[],h,fun s=>by simp,List.nodup_nil,fun p hp=>by cases hp⟩
theorem met_put {P:Program} {W:World} {M:Nat} {pre:List ByteArray} {t kt et:TypeId} (s:ByteArray) (h:MetAt W M pre) (ht:P.underlying t=some (.map kt et)) (htd:P.underlying kt=some .string) :
  ∃ o W',(Instr.mapUpdate t (.map (some M)) (.string s) (.bool true)).run P W=.ok () W'∧W'={ W with heap:=W.heap.setIfInBounds M o }∧MetAt W' M (pre++[s]):=by
 obtain ⟨l,h1,h2,h3,h4⟩:=h
 obtain ⟨l',hu,hg,hn,hm⟩:=run_update_str (P:=P) (s:=s) (v:=.bool true) h1 ht htd
 refine ⟨_,_,hu,rfl,l',(Go.MapKept.heap_set h1).1,fun x=>?_,hn h3,fun p hp=>?_⟩
 ·rw [key_iff,hg x,List.mem_append,List.mem_singleton,← h2 x,key_iff]
  by_cases e:x=s
  ·rw [if_pos e]; simp [e]
  ·rw [if_neg e]; simp [e]
 ·rcases hm p hp with q | q
  ·exact h4 p q
  ·rw [q]
theorem nodup_le {α:Type}:∀ {l m:List α},l.Nodup→(∀ x∈l,x∈m)→l.length≤m.length
 | [],m,_,_=>Nat.zero_le _
 | x :: l,m,hn,hs=>by
  obtain ⟨s,t,rfl⟩:=List.append_of_mem (hs x (by simp))
  have hx:=List.nodup_cons.1 hn
  have:=nodup_le (m:=s++t) hx.2 (fun y hy=>by
   rcases List.mem_append.1 (hs y (by simp [hy])) with q | q
   ·exact List.mem_append_left _ q
   ·rcases List.mem_cons.1 q with rfl | q
    ·exact absurd hy hx.1
    ·exact List.mem_append_right _ q)
  simp only [List.length_append,List.length_cons] at this ⊢
  omega
theorem refs_ok {s:ByteArray} {x:Ex} (hw:WfE x) (hs:s∈nW x):oJ s.data.toList:=by
 revert hw hs
 refine ex_ind (p:=fun x=>WfE x→s∈nW x→oJ s.data.toList) (fun x ih hw hs=>?_) x
 rw [refsE_eq,List.mem_append] at hs
 rcases hs with hs | hs
 ·by_cases h2:x.op=2
  ·rw [if_pos h2] at hs
   rw [List.mem_singleton.1 hs]; exact (ref_shape hw h2).2
  ·rw [if_neg h2] at hs; cases hs
 ·obtain ⟨y,hy,hys⟩:=mem_refsL.1 hs
  exact ih y hy (hw.list.get hy) hys
theorem refs_len (x:Ex):(nW x).length≤(szE x).1:=by
 refine ex_ind (p:=fun x=>(nW x).length≤(szE x).1) (fun x ih=>?_) x
 rw [refsE_eq,lX,List.length_append]
 have hL:∀ l:List Ex,(∀ y∈l,(nW y).length≤(szE y).1)→(oW l).length≤(szL l).1:=by
  intro l
  induction l with
  | nil=>intro _; simp [oW]
  | cons y l ih2 =>
   intro h
   have h1:=h y (by simp)
   have h2:=ih2 (fun z hz=>h z (by simp [hz]))
   rw [oW,szL,List.length_append]
   simp only
   omega
 have:=hL x.args ih
 simp only
 split <;> simp <;> omega
set_option maxHeartbeats 4000000 in
theorem of_in (x:Ex) (v:Value) (w:World) (bad:List Nat) (hx:IsArgs ⟨w,bad⟩ x v) (hw:WfE x) (hsz:(szE x).1 < 1000000) (hcx:chkE x=0) :
  CallsIn Fence.wide 6 Tryz.prog 125 #[.agg #[.int .i64 x.op,.int .i64 x.k,.int .i64 x.n,.string x.s,.string x.nm,v]] w (fun e W'=>∃ (r:Value) (ss:List (List UInt8)) (D0:DataW Unit),e=.returned (.tuple #[r,.int .i64 0])∧ss.Perm (strKeys D0)∧(strKeys D0).Nodup∧(∀ s:ByteArray,s.data.toList∈strKeys D0↔s∈nW x)∧W'.ownsRow w.heap.size 9 1 r ss.length ((ss.mergeSort (fun x y=>decide (x≤y))).map Go.Proofs.encStr)∧(r=.slice none 0 0↔ss=[])∧Below w.heap.size w W'):=by
 have h1:1≤6:=by omega
 obtain ⟨xA,xn,xc,rfl⟩:=hx.slice
 have HX:=Lib.hid hx
 have HW:=Lib.hid hw
 refine callsIn_of_wp_marks Tryz.func125 rfl trivial ?_ rfl
 simp only [Tryz.ntmps125,List.size_toArray,List.length_cons,List.length_nil,Nat.reduceAdd,Nat.reduceSub,Array.replicate_succ,Array.replicate_zero,List.push_toArray,List.append_toArray,List.nil_append,List.cons_append]
 have hs0:Sees ⟨w,bad⟩ ⟨w.alloc (.cells #[.int .i64 x.op,.int .i64 x.k,.int .i64 x.n,.string x.s,.string x.nm,.slice xA xn xc] 27),bad⟩:=sees_below ((Below.refl _ w).alloc (Nat.le_refl _) _)
 have hck:CallsIn Fence.wide (6 - 1) Tryz.prog 25 #[.agg #[.int .i64 x.op,.int .i64 x.k,.int .i64 x.n,.string x.s,.string x.nm,.slice xA xn xc]] (w.alloc (.cells #[.int .i64 x.op,.int .i64 x.k,.int .i64 x.n,.string x.s,.string x.nm,.slice xA xn xc] 27)) (fun e W'=>e=.returned (.int .i64 0)∧Below (w.alloc (.cells #[.int .i64 x.op,.int .i64 x.k,.int .i64 x.n,.string x.s,.string x.nm,.slice xA xn xc] 27)).heap.size (w.alloc (.cells #[.int .i64 x.op,.int .i64 x.k,.int .i64 x.n,.string x.s,.string x.nm,.slice xA xn xc] 27)) W'):=by
  refine callsIn_wide.2 ((check_any x (.slice xA xn xc) ⟨w.alloc (.cells #[.int .i64 x.op,.int .i64 x.k,.int .i64 x.n,.string x.s,.string x.nm,.slice xA xn xc] 27),[]⟩ (hx.sees ⟨hs0.size,fun b hb _=>((Below.refl _ w).alloc (Nat.le_refl _) _).block b hb,fun _ h=>(by cases h)⟩) hw hsz (fun x hx=>by cases hx) (by simp) (by simp) (by simp)).mono ?_)
  rintro e W' ⟨r,Bo,rfl,hlo,-,-,rfl⟩
  exact ⟨by rw [hcx],hlo.below⟩
 gi_wp2_with ((try refine ⟨trivial,?_⟩); (try refine ⟨qX _,?_⟩); gi_at_call 25; refine hck.mono ?_; clear hck; rintro e W1 ⟨rfl,hB1⟩)
 have bx0:=Box.new w #[.int .i64 x.op,.int .i64 x.k,.int .i64 x.n,.string x.s,.string x.nm,.slice xA xn xc] 27
 have hz0:(w.alloc (.cells #[.int .i64 x.op,.int .i64 x.k,.int .i64 x.n,.string x.s,.string x.nm,.slice xA xn xc] 27)).heap.size=w.heap.size + 1:=by simp
 have hBw:Below w.heap.size w W1:=((Below.refl _ w).alloc (Nat.le_refl _) _).trans (hB1.mono (by simp))
 generalize (w.alloc (.cells #[.int .i64 x.op,.int .i64 x.k,.int .i64 x.n,.string x.s,.string x.nm,.slice xA xn xc] 27))=W0 at *
 obtain ⟨M,hM⟩:∃ M,M=W1.heap.size:=⟨_,rfl⟩
 have hb1:=bx0.low hB1 (by omega)
 have hsz1:=hB1.size
 obtain ⟨W2,hW2⟩:∃ W2,W2=W1.alloc (.map #[] 0):=⟨_,rfl⟩
 obtain ⟨W3,hW3⟩:∃ W3,W3=W2.alloc (.cells #[.map (some M)] 194):=⟨_,rfl⟩
 have hb3:Box W3 w.heap.size [.int .i64 x.op,.int .i64 x.k,.int .i64 x.n,.string x.s,.string x.nm,.slice xA xn xc]:=by
  rw [hW3,hW2]
  exact hb1.low (((Below.refl _ W1).alloc (Nat.le_refl _) _).alloc (by simp) _) (by omega)
 have c0:=hb3.cells 0 _ rfl
 have c1:=hb3.cells 1 _ rfl
 have c2:=hb3.cells 2 _ rfl
 have c3:=hb3.cells 3 _ rfl
 have c4:=hb3.cells 4 _ rfl
 have c5:=hb3.cells 5 _ rfl
 rw [hW3,hW2,hM] at c0 c1 c2 c3 c4 c5
 simp only [run_makeMap,Result.andThen]
 gi_wp2_with ((try refine ⟨trivial,?_⟩); (try refine ⟨qX _,?_⟩); gi_at_call 145; refine (refs_in x (.slice xA xn xc) (6 - 1) _).mono ?_; rintro e w' ⟨rfl,rfl⟩)
 rw [← hM,← hW2,← hW3]
 have z2:W2.heap.size=M + 1:=by rw [hW2,hM]; simp
 have z3:W3.heap.size=M + 1 + 1:=by rw [hW3,World.size_alloc,z2]
 have m3:W3.heap[M]?=some (aV (jX [])):=by
  rw [hW3]
  refine ((Go.MapKept.heap_alloc _ _).2 _ (by omega)).trans ?_
  rw [hW2,hM]; exact (Go.MapKept.heap_alloc _ _).1
 have b3:Boxed W3 (M + 1) 194 (.map (some M)):=by rw [hW3,← z2]; exact Boxed.new _ _ _
 obtain ⟨W4,hW4⟩:∃ W4,W4=W3.alloc (.cells #[.int .i64 x.op,.int .i64 x.k,.int .i64 x.n,.string x.s,.string x.nm,.slice xA xn xc] 27):=⟨_,rfl⟩
 have z4:W4.heap.size=M + 1 + 1 + 1:=by rw [hW4,World.size_alloc,z3]
 have m4:W4.heap[M]?=some (aV (jX [])):=by rw [hW4]; exact ((Go.MapKept.heap_alloc _ _).2 _ (by omega)).trans m3
 have b4:Boxed W4 (M + 1) 194 (.map (some M)):=by rw [hW4]; exact b3.alloc _
 have x4:W4.heap[M + 1 + 1]?=some (.cells #[.int .i64 x.op,.int .i64 x.k,.int .i64 x.n,.string x.s,.string x.nm,.slice xA xn xc] 27 (0,0)):=by rw [hW4,← z3]; exact World.alloc_heap_new _ _
 have hB4:Below w.heap.size w W4:=by
  rw [hW4,hW3,hW2]
  exact hBw.trans (((((Below.refl _ W1).alloc (Nat.le_refl _) _).alloc (by simp) _).alloc (by simp; omega) _).mono (by omega))
 rw [← hW4]
 clear hW4 hW3 hW2 c0 c1 c2 c3 c4 c5 hb3 m3 b3 z2 z3
 have HB:=Lib.hid hB4
 have HM:=Lib.hid m4
 have HBX:=Lib.hid b4
 have HX4:=Lib.hid x4
 clear hB4 m4 b4 x4 hb1 bx0 hB1 hs0 hx hw
 subst hM
 refine wpIn_rangeFunc_ownG (α:=ByteArray) rfl h1 (gf:=159) (lb:=#[.pointer (some ⟨W1.heap.size + 1 + 1,0,none⟩)]) rfl trivial (enters_of Tryz.func159 (by kernel_rfl) rfl)
  (refs_stops x (.slice xA xn xc) ⟨w,bad⟩ HX.out HW.out (6 - 1) (W1.heap.size + 1 + 1) W4 HB.out HX4.out) kp_t (kp_b HB.out.size) (Below.refl _ _) (fun _=>rfl)
  (fun pre W=>(MetAt W W1.heap.size pre∧Boxed W (W1.heap.size + 1) 194 (.map (some W1.heap.size)))∧Below w.heap.size w W)
  (fun _ _ W=>False∧Below w.heap.size w W)
  (OwnFrom.and (fun s A B row hs hg hr=>⟨by
    obtain ⟨l,h2,h3⟩:=hs.1
    exact ⟨l,(hg.block _ (Array.getElem?_eq_some_iff.1 h2).1 (fun e=>by have:=(hr _ e.symm).1; omega)).trans h2,h3⟩,hs.2.kept hg (cells_own hs.2 rfl (fun r e=>(hr r e).2))⟩) (ownFrom_below (Nat.le_refl _) (by have:=HB.out.size; omega)))
  (fun c=>OwnFrom.and (fun s A B row hs hg hr=>hs) (ownFrom_below (Nat.le_refl _) (by have:=HB.out.size; omega)))
  ⟨⟨met_nil HM.out,HBX.out⟩,HB.out⟩
  (fun s=>{ tmps:=#[.agg #[.int .i64 x.op,.int .i64 x.k,.int .i64 x.n,.string x.s,.string x.nm,.slice xA xn xc],.pointer (some ⟨w.heap.size,0,none⟩),.slice none 0 0,.int .i64 0,.int .i64 0,.pointer (some ⟨W1.heap.size + 1,0,none⟩),.string s,.agg #[.int .i64 x.op,.int .i64 x.k,.int .i64 x.n,.string x.s,.string x.nm,.slice xA xn xc],.int .i64 0,.int .i64 0,.bool false,undef,.map (some W1.heap.size),.agg #[.int .i64 x.op,.int .i64 x.k,.int .i64 x.n,.string x.s,.string x.nm,.slice xA xn xc],.func (.func 159) #[] #[.pointer (some ⟨W1.heap.size + 1 + 1,0,none⟩)],.string s,undef,undef,undef,undef,undef],defers:=[] }) ?assign ?body ?done ?stop
 case assign =>
  intro l s W K hK
  gi_wp2
  exact hK
 case body =>
  rintro l pre s W ⟨⟨hmet,hbx⟩,hB⟩ hpl
  obtain ⟨o,W',hu,hW',hmet'⟩:=met_put (P:=Tryz.prog) (t:=194) s hmet Tryz.underlying194 Tryz.underlying9
  obtain ⟨lm,hm,-⟩:=hmet
  have cM:=hbx.cell
  have hgr:=grown_set o hm
  have hml:=(Array.getElem?_eq_some_iff.1 hm).1
  have hbl:Below w.heap.size W _:=(Below.refl w.heap.size W).grown hgr hB.size (fun k e=>by cases e; exact hBw.size)
  have hkc:=KeepsCells.grown hgr (fun r e=>by cases e; exact ⟨_,hm,rfl⟩)
  rw [← hW'] at hgr hbl hkc
  have HF:=Lib.hid (And.intro (KeepsFrom.of_grownBy (B:=W4.heap.size) hgr (fun j e=>by cases e; omega)) (And.intro (Kp.mk hbl hkc) (And.intro (And.intro hmet' (hkc.boxed hbx)) (hB.trans hbl))))
  clear hgr hbl hkc hmet' hW' hB hm hml hbx hpl
  gi_wp2_with (first | (gi_at_mapUpdate; refine wpListIn_mapUpdate_at rfl _ _ _ 194 rfl rfl rfl rfl hu ?_) | gi_in)
  have hfo:=HF.out
  rw [z4] at hfo
  exact ⟨hfo.1,hfo.2.1,hfo.2.2⟩
 case done =>
  rintro D ys W hD rfl ⟨⟨⟨l,hm,hk,hnd,hv⟩,hbx⟩,hB⟩ hK
  have hks:∀ p∈l,p.1.size≤10:=fun p hp=>by
   have hr:=(hk p.1).1 (List.mem_map.2 ⟨p,hp,rfl⟩)
   have:=refs_ok HW.out hr
   simpa using this.2.1
  have hll:l.length≤1000000:=by
   have h1:=nodup_le hnd (m:=nW x) (fun s hs=>(hk s).1 hs)
   have h2:=refs_len x
   simp only [List.length_map] at h1
   omega
  obtain ⟨D0,hown,hkeys,hsize⟩:=map_owned (P:=Tryz.prog) (k:=9) (e:=4) hm hnd (fun p hp=>by have:=hks p hp; unfold maxLen; omega) hv (by unfold maxLen; omega) Tryz.underlying9 Tryz.underlying4
  have cM:=hbx.cell
  have hfK:Fence.wide.fn 147:=trivial
  have hfS:Fence.wide.fn 146:=trivial
  gi_wp2_with (first
   | (gi_at_call 147; refine (Tryz.maps_Keys_147 _ _).mono ?_; rintro e w' ⟨rfl,rfl⟩)
   | (gi_at_call 146; refine (Tryz.slices_Sorted_keys_146_147 W1.heap.size l.length D0 _ W hown (by unfold maxLen; omega) (by omega)).mono ?_; rintro e w' ⟨r,ss,rfl,hS,hrow,hnil,hb⟩))
  have hWD:D < W.heap.size:=(Array.getElem?_eq_some_iff.1 hK).1
  have hza:(W.alloc (.cells #[.map (some W1.heap.size)] 194)).heap.size=W.heap.size + 1:=World.size_alloc _ _
  have hK':w'.heap[D]?=some (.deferred (some [])):=(hb.block D (by omega)).trans (((Below.refl _ W).alloc (Nat.le_refl _) _).block D hWD |>.trans hK)
  have hBz:=hB.size
  have hrow2:(w'.putObj D (.deferred none)).ownsRow w.heap.size 9 1 r ss.length ((ss.mergeSort (fun x y=>decide (x≤y))).map Go.Proofs.encStr):=by
   refine ⟨hrow.1,?_⟩
   rcases hrow.2 with q | ⟨g,cap,cur,e,hbg,hg,rest⟩
   ·exact .inl q
   ·refine .inr ⟨g,cap,cur,e,by omega,?_,rest⟩
    rw [(grownBy_putObj' w' D (.deferred none)).block g (Array.getElem?_eq_some_iff.1 hg).1 (fun e=>by injection e; omega)]
    exact hg
  have hmem:∀ s:ByteArray,s.data.toList∈strKeys D0↔s∈nW x:=fun s=>by
   rw [hkeys.mem_iff,← hk s,List.mem_map,List.mem_map]
   constructor
   ·rintro ⟨p,hp,e⟩
    refine ⟨p,hp,?_⟩
    obtain ⟨⟨⟨a⟩⟩,b⟩:=p
    obtain ⟨⟨c⟩⟩:=s
    simp only at e ⊢
    rw [e]
   ·rintro ⟨p,hp,e⟩
    exact ⟨p,hp,by rw [e]⟩
  have hndk:(strKeys D0).Nodup:=by
   rw [hkeys.nodup_iff]
   refine List.pairwise_map.2 ((List.pairwise_map.1 hnd).imp fun {p q} hpq e=>hpq ?_)
   obtain ⟨⟨⟨a⟩⟩,b⟩:=p
   obtain ⟨⟨⟨c⟩⟩,d⟩:=q
   simp only at e ⊢
   rw [e]
  refine ⟨by simp,.inl ⟨_,_,rfl,run_takeDeferred hK',?_⟩⟩
  refine ⟨.tuple #[r,.int .i64 0],?_,r,ss,D0,rfl,hS,hndk,hmem,hrow2,hnil,(hB.trans ((((Below.refl w.heap.size W).alloc (by omega) _)).trans (hb.mono (by omega)))).trans (belowK_b (w:=w) (Nat.le_refl _) _ D _ _ (by omega) hK' rfl rfl)⟩
  simp [results,Tryz.f125,go_sem]
 case stop =>
  rintro D c pre W hD - ⟨hf,-⟩
  exact hf.elim
def dd {α:Type} [DecidableEq α]:List α→List α
 | []=>[]
 | x :: l=>if x∈l then dd l else x :: dd l
theorem mem_dd {α:Type} [DecidableEq α] {x:α}:∀ {l:List α},x∈dd l↔x∈l
 | []=>Iff.rfl
 | y :: l=>by
  unfold dd
  split
  ·rename_i h
   rw [mem_dd (l:=l),List.mem_cons]
   exact ⟨.inr,fun q=>q.elim (fun e=>e ▸ h) id⟩
  ·rw [List.mem_cons,List.mem_cons,mem_dd (l:=l)]
theorem nodup_dd {α:Type} [DecidableEq α]:∀ l:List α,(dd l).Nodup
 | []=>List.nodup_nil
 | y :: l=>by
  unfold dd
  split
  ·exact nodup_dd l
  ·rename_i h
   exact List.nodup_cons.2 ⟨fun q=>h (mem_dd.1 q),nodup_dd l⟩
def namesB (x:Ex):List (List UInt8):=(dd ((nW x).map fun s=>s.data.toList)).mergeSort fun x y=>decide (x≤y)
def fV (x:Ex):List ByteArray:=(namesB x).map fun l=>⟨l.toArray⟩
theorem mem_namesB {x:Ex} {l:List UInt8}:l∈namesB x↔∃ s∈nW x,s.data.toList=l:=by
 unfold namesB
 rw [List.mem_mergeSort,mem_dd,List.mem_map]
theorem mem_namesE {x:Ex} {s:ByteArray}:s∈fV x↔s∈nW x:=by
 unfold fV
 rw [List.mem_map]
 constructor
 ·rintro ⟨l,hl,rfl⟩
  obtain ⟨t,ht,rfl⟩:=mem_namesB.1 hl
  have:(⟨t.data.toList.toArray⟩:ByteArray)=t:=by simp
  rw [this]; exact ht
 ·intro h
  exact ⟨s.data.toList,mem_namesB.2 ⟨s,h,rfl⟩,by simp⟩
theorem namesB_nodup (x:Ex):(namesB x).Nodup:=(List.mergeSort_perm _ _).nodup_iff.2 (nodup_dd _)
theorem namesE_nodup (x:Ex):(fV x).Nodup:=List.pairwise_map.2 ((namesB_nodup x).imp fun {a b} h e=>h (by simpa using congrArg (fun s:ByteArray=>s.data.toList) e))
theorem namesE_len (x:Ex):(fV x).length≤(nW x).length:=nodup_le (namesE_nodup x) fun _ h=>mem_namesE.1 h
theorem sort_names {x:Ex} {ss ks:List (List UInt8)} (h:ss.Perm ks) (hn:ks.Nodup) (hm:∀ s:ByteArray,s.data.toList∈ks↔s∈nW x):ss.mergeSort (fun x y=>decide (x≤y))=namesB x:=by
 refine mergeSort_of_perm (h.trans ((List.perm_ext_iff_of_nodup hn (nodup_dd _)).2 fun l=>?_))
 rw [mem_dd,List.mem_map]
 have:=hm ⟨l.toArray⟩
 simp only at this
 rw [this]
 constructor
 ·intro q; exact ⟨_,q,by simp⟩
 ·rintro ⟨s,hs,rfl⟩
  simpa using hs
theorem enc_flat:∀ l:List (List UInt8),(l.map Go.Proofs.encStr)=(kX (l.map fun l=>(⟨l.toArray⟩:ByteArray))).flatten
 | []=>rfl
 | x :: l=>by
  rw [List.map_cons,enc_flat l]; rfl
theorem nmOf_any (x:Ex) (v:Value) (h:Vw) (hx:IsArgs h x v) (hw:WfE x) (hsz:(szE x).1 < 1000000) (hcx:chkE x=0) :
  C0 Tryz.prog 125 #[.agg #[.int .i64 x.op,.int .i64 x.k,.int .i64 x.n,.string x.s,.string x.nm,v]] h (fun r h'=>∃ A c,r=.tuple #[.slice A (fV x).length c,.int .i64 0]∧RS h' 1 (.slice A (fV x).length c) (kX (fV x))):=by
 intro _ _ _ hbad
 refine (callsIn_wide.1 (of_in x v h.w h.bad hx hw hsz hcx)).mono ?_
 rintro e w' ⟨r,ss,D0,rfl,hS,hnd,hm,hrow,-,hb⟩
 rw [sort_names hS hnd hm,enc_flat] at hrow
 have hl:ss.length=(kX (fV x)).length:=by
  rw [List.length_map,fV,List.length_map,← sort_names hS hnd hm,List.length_mergeSort]
 rw [hl] at hrow
 have hent:Ent.ok h.w.heap.size w' (.row r 9 1 (kX (fV x))):=⟨hrow,fun q hq=>by obtain ⟨s,-,rfl⟩:=List.mem_map.1 hq; rfl⟩
 have hrs:RS ⟨w',h.bad⟩ 1 r (kX (fV x)):=row_rs hent fun b hb' hm=>by have:=(hrow.lt b hb').1; have:=hbad b hm; omega
 obtain ⟨A,c,e,-⟩:=hrs.form
 rw [List.length_map] at e
 subst e
 exact ⟨_,[],rfl,Low.of_below hb,(fun x hx=>by cases hx),rfl,A,c,rfl,hrs⟩
end Go.Proofs.YthplkompdehjlaaGreatDoor
namespace Go.Proofs.YthplkompdehjlaaGreatDoor
open Go.RowKit
def plc (fs:List Fd) (s:ByteArray):Nat:=(oK fs s).toNat
def needE (fs:List Fd) (f:Fd):List Nat:=if f.kind=1 then [] else (fV f.src).map (plc fs)
def jV (fs:List Fd):List (List Nat):=fs.map (needE fs)
def dV (out:List Int):Int→List Nat→Int
 | a,[]=>a
 | a,k :: l=>if out.getD k 0 < 0 then -1 else dV out (max a (out.getD k 0 + 1)) l
def rkStep (need:List (List Nat)) (out:List Int) (i:Nat):List Int:=out.set i (max (out.getD i 0) (dV out 0 (need.getD i [])))
def qW (need:List (List Nat)) (out:List Int):Nat→List Int
 | 0=>out
 | i + 1=>rkStep need (qW need out i) i
def lW (need:List (List Nat)):Nat→List Int
 | 0=>List.replicate need.length (-1)
 | t + 1=>qW need (lW need t) need.length
theorem round_len (need:List (List Nat)) (out:List Int):∀ i,(qW need out i).length=out.length
 | 0=>rfl
 | i + 1=>by rw [qW,rkStep,List.length_set,round_len need out i]
theorem ranks_len (need:List (List Nat)):∀ t,(lW need t).length=need.length
 | 0=>by rw [lW,List.length_replicate]
 | t + 1=>by rw [lW,round_len,ranks_len need t]
def topR (r:List Int) (l:List Nat):Int:=l.foldl (fun a k=>max a (r.getD k 0 + 1)) 0
theorem fold_top (r:List Int):∀ (l:List Nat) (a:Int),0≤a→l.foldl (fun a k=>max a (r.getD k 0 + 1)) a=max a (topR r l)∧0≤topR r l
 | [],a,h=>⟨by unfold topR; simp only [List.foldl_nil]; omega,by unfold topR; simp⟩
 | k :: l,a,h=>by
  have h1:=fold_top r l (max a (r.getD k 0 + 1)) (by omega)
  have h2:=fold_top r l (max 0 (r.getD k 0 + 1)) (by omega)
  have e:topR r (k :: l)=max (max 0 (r.getD k 0 + 1)) (topR r l):=by show List.foldl _ _ _=_; rw [List.foldl_cons]; exact h2.1
  rw [List.foldl_cons,h1.1,e]
  have:=h1.2
  exact ⟨by omega,by omega⟩
theorem top_cons (r:List Int) (k:Nat) (l:List Nat):topR r (k :: l)=max (max 0 (r.getD k 0 + 1)) (topR r l):=(fold_top r l (max 0 (r.getD k 0 + 1)) (by omega)).1
theorem top_nn (r:List Int) (l:List Nat):0≤topR r l:=(fold_top r l 0 (Int.le_refl _)).2
structure Ranked (need:List (List Nat)) (ρ:List Int) (lv:Nat→Nat):Prop where
 len:ρ.length=need.length
 at_:∀ i,i < need.length→ρ.getD i 0=topR ρ (need.getD i [])
 low:∀ i,i < need.length→∀ k∈need.getD i [],k < need.length∧lv k < lv i
 few:∀ i,i < need.length→lv i < need.length
theorem mostA_yes {out ρ:List Int}:∀ (l:List Nat) (a:Int),0≤a→(∀ k∈l,out.getD k 0=ρ.getD k 0∧0≤ρ.getD k 0)→dV out a l=max a (topR ρ l)
 | [],a,h,_=>by unfold dV topR; simp only [List.foldl_nil]; omega
 | k :: l,a,h,hk=>by
  obtain ⟨h1,h2⟩:=hk k (by simp)
  unfold dV
  rw [if_neg (by omega),mostA_yes l _ (by omega) (fun k' hk'=>hk k' (by simp [hk'])),h1,top_cons]
  omega
theorem mostA_no {out:List Int}:∀ (l:List Nat) (a:Int),(∃ k∈l,out.getD k 0 < 0)→dV out a l = -1
 | k :: l,a,⟨k',hk',h⟩=>by
  unfold dV
  split
  ·rfl
  ·rename_i q
   rcases List.mem_cons.1 hk' with rfl | hk'
   ·exact absurd h q
   ·exact mostA_no l _ ⟨k',hk',h⟩
structure Good (need:List (List Nat)) (ρ:List Int) (lv:Nat→Nat) (out:List Int) (t i:Nat):Prop where
 len:out.length=need.length
 or_:∀ j,j < need.length→out.getD j 0=ρ.getD j 0∨out.getD j 0 = -1
 has:∀ j,j < need.length→lv j < t→out.getD j 0=ρ.getD j 0
 now:∀ j,j < i→j < need.length→lv j < t + 1→out.getD j 0=ρ.getD j 0
theorem rank_nn {need:List (List Nat)} {ρ:List Int} {lv:Nat→Nat} (h:Ranked need ρ lv) {i:Nat} (hi:i < need.length):0≤ρ.getD i 0:=by rw [h.at_ i hi]; exact top_nn _ _
theorem getD_set {l:List Int} {i j:Nat} {v:Int} (hi:i < l.length):(l.set i v).getD j 0=if j=i then v else l.getD j 0:=by
 rw [List.getD_eq_getElem?_getD,List.getD_eq_getElem?_getD,List.getElem?_set]
 by_cases e:i=j
 ·subst e; rw [if_pos rfl,if_pos hi,if_pos rfl]; rfl
 ·rw [if_neg e,if_neg fun q=>e q.symm]
theorem step_good {need:List (List Nat)} {ρ:List Int} {lv:Nat→Nat} (h:Ranked need ρ lv) {out:List Int} {t i:Nat} (g:Good need ρ lv out t i) (hi:i < need.length):Good need ρ lv (rkStep need out i) t (i + 1):=by
 have hil:i < out.length:=by rw [g.len]; exact hi
 have hn:=rank_nn h hi
 have hold:=g.or_ i hi
 have key:(max (out.getD i 0) (dV out 0 (need.getD i []))=ρ.getD i 0∨max (out.getD i 0) (dV out 0 (need.getD i []))=out.getD i 0)∧(lv i < t + 1→max (out.getD i 0) (dV out 0 (need.getD i []))=ρ.getD i 0):=by
  by_cases q:∃ k∈need.getD i [],out.getD k 0 < 0
  ·rw [mostA_no _ _ q]
   refine ⟨.inr (by omega),fun hlv=>?_⟩
   obtain ⟨k,hk,hkl⟩:=q
   obtain ⟨k1,k2⟩:=h.low i hi k hk
   have:=g.has k k1 (by omega)
   have:=rank_nn h k1
   omega
  ·have hy:dV out 0 (need.getD i [])=max 0 (topR ρ (need.getD i [])):=mostA_yes _ _ (Int.le_refl _) fun k hk=>by
    obtain ⟨k1,k2⟩:=h.low i hi k hk
    have hp:=rank_nn h k1
    refine ⟨?_,hp⟩
    rcases g.or_ k k1 with e | e
    ·exact e
    ·exact absurd ⟨k,hk,by omega⟩ q
   rw [hy,← h.at_ i hi]
   exact ⟨.inl (by omega),fun _=>by omega⟩
 unfold rkStep
 refine ⟨by rw [List.length_set]; exact g.len,fun j hj=>?_,fun j hj hl=>?_,fun j hj hj2 hl=>?_⟩
 ·rw [getD_set hil]
  split
  ·rename_i e; subst e
   rcases key.1 with q | q
   ·exact .inl q
   ·rw [q]; exact hold
  ·exact g.or_ j hj
 ·rw [getD_set hil]
  split
  ·rename_i e; subst e; exact key.2 (by omega)
  ·exact g.has j hj hl
 ·rw [getD_set hil]
  split
  ·rename_i e; subst e; exact key.2 hl
  ·exact g.now j (by omega) hj2 hl
theorem round_good {need:List (List Nat)} {ρ:List Int} {lv:Nat→Nat} (h:Ranked need ρ lv) {out:List Int} {t:Nat} (g:Good need ρ lv out t 0):∀ i,i≤need.length→Good need ρ lv (qW need out i) t i
 | 0,_=>g
 | i + 1,hi=>step_good h (round_good h g i (by omega)) (by omega)
theorem ranks_good {need:List (List Nat)} {ρ:List Int} {lv:Nat→Nat} (h:Ranked need ρ lv):∀ t,Good need ρ lv (lW need t) t 0
 | 0=>⟨ranks_len need 0,fun j hj=>.inr (by rw [lW,List.getD_eq_getElem?_getD,List.getElem?_replicate,if_pos hj]; rfl),fun j hj hl=>absurd hl (by omega),fun j hj=>absurd hj (by omega)⟩
 | t + 1=>by
  have g:=round_good h (ranks_good h t) need.length (Nat.le_refl _)
  exact ⟨g.len,g.or_,fun j hj hl=>g.now j hj hj hl,fun j hj=>absurd hj (by omega)⟩
theorem ranks_true {need:List (List Nat)} {ρ:List Int} {lv:Nat→Nat} (h:Ranked need ρ lv):lW need need.length=ρ:=by
 have g:=ranks_good h need.length
 refine List.ext_getElem? fun i=>?_
 by_cases hi:i < need.length
 ·have:=g.has i hi (h.few i hi)
  rw [List.getD_eq_getElem?_getD,List.getD_eq_getElem?_getD,List.getElem?_eq_getElem (by rw [g.len]; exact hi),List.getElem?_eq_getElem (by rw [h.len]; exact hi)] at this
  rw [List.getElem?_eq_getElem (by rw [g.len]; exact hi),List.getElem?_eq_getElem (by rw [h.len]; exact hi)]
  exact congrArg some this
 ·rw [List.getElem?_eq_none (by rw [g.len]; omega),List.getElem?_eq_none (by rw [h.len]; omega)]
end Go.Proofs.YthplkompdehjlaaGreatDoor
namespace Go.Proofs.YthplkompdehjlaaGreatDoor
open Go.RowKit
set_option linter.unusedVariables false
abbrev iV (l:List Nat):List (List Value):=l.map fun (k:Nat)=>[Value.int .i64 (k:Int)]
theorem natRows_snoc (l:List Nat) (k:Nat):iV (l++[k])=iV l++[[.int .i64 (k:Int)]]:=by simp [iV]
def NeedAll (h:Vw):List (List Nat)→List Value→Prop
 | [],us=>us=[]
 | x :: l,us=>∃ u r,us=u :: r∧RS h 1 u (iV x)∧NeedAll h l r
theorem NeedAll.sees {h h':Vw} (s:Sees h h'):∀ {l:List (List Nat)} {us:List Value},NeedAll h l us→NeedAll h' l us
 | [],_,k=>k
 | x :: l,_,⟨u,r,e,k1,k2⟩=>⟨u,r,e,k1.sees s,NeedAll.sees s k2⟩
theorem NeedAll.len {h:Vw}:∀ {l:List (List Nat)} {us:List Value},NeedAll h l us→us.length=l.length
 | [],_,k=>by cases k; rfl
 | x :: l,_,⟨u,r,e,k1,k2⟩=>by subst e; simp [NeedAll.len k2]
theorem NeedAll.snoc {h:Vw} {x:List Nat} {u:Value} (k:RS h 1 u (iV x)):∀ {l:List (List Nat)} {us:List Value},NeedAll h l us→NeedAll h (l++[x]) (us++[u])
 | [],_,e=>by cases e; exact ⟨u,[],rfl,k,rfl⟩
 | y :: l,_,⟨u',r,e,k1,k2⟩=>by subst e; exact ⟨u',r++[u],rfl,k1,NeedAll.snoc k k2⟩
theorem NeedAll.get {h:Vw}:∀ {l:List (List Nat)} {us:List Value},NeedAll h l us→∀ {i:Nat} {x:List Nat} {u:Value},l[i]?=some x→us[i]?=some u→RS h 1 u (iV x)
 | [],_,_,i,x,u,hx,_=>by simp at hx
 | y :: l,_,⟨u',r,e,k1,k2⟩,i,x,u,hx,hu=>by
  subst e
  cases i with
  | zero=>simp at hx hu; subst hx hu; exact k1
  | succ i=>exact NeedAll.get k2 (by simpa using hx) (by simpa using hu)
theorem refs_le (x:Ex):(nW x).length≤(szE x).1:=by
 refine ex_ind (p:=fun x=>(nW x).length≤(szE x).1) (fun x ih=>?_) x
 have key:∀ l:List Ex,(∀ y∈l,(nW y).length≤(szE y).1)→(oW l).length≤(szL l).1:=by
  intro l
  induction l with
  | nil=>intro _; simp [oW]
  | cons y l ihl =>
   intro hl
   have h1:=hl y (by simp)
   have h2:=ihl fun z hz=>hl z (by simp [hz])
   rw [oW,szL,List.length_append]
   simp only
   omega
 have:=key x.args ih
 rw [refsE_eq,lX,List.length_append]
 simp only
 split <;> simp <;> omega
theorem one_snoc (us:List Value) (u:Value):(us++[u]).map (fun u=>[u])=us.map (fun u=>[u])++[[u]]:=by simp
theorem findP_any (fs:List Fd) (v:Value) (s:ByteArray) (h:Vw) (hf:IsFds h v fs) (hl:fs.length≤1000000):C0 Tryz.prog 104 #[v,.string s] h (fun r _=>r=.tuple #[.int .i64 ((plc fs s:Nat):Int),.int .i64 (if oK fs s < 0 then 5 else 0)]):=by
 unfold plc
 rcases findF_lt fs s with e | ⟨i,f,e,-,-⟩
 ·rw [e]; exact find_no fs v s h hf hl (by omega)
 ·rw [e,if_neg (by omega)]; exact find_yes fs v s i h hf hl e
set_option maxHeartbeats 2000000 in
theorem needs_any (fs:List Fd) (fv:Value) (h:Vw) (hok:OkFs fs) (hfs:IsFds h fv fs) :
  C0 Tryz.prog 98 #[fv] h (fun r h'=>∃ A c us,r=.slice A fs.length c∧RS h' 1 (.slice A fs.length c) (us.map fun u=>[u])∧NeedAll h' (jV fs) us):=by
 obtain ⟨vs,A,c,rfl,-,-,hr,hsrc,hvl,hsl⟩:=nK hfs
 have few:=hok.few
 have hFi:=fun H s q=>findP_any fs (.slice A fs.length c) s H q (by omega)
 generalize hL:fs.length=len at *
 refine xK Tryz.func98 (c:=Tryz.f98.body.getD .skip) (N:=51) ?_
 intro hbx hbad Q hQ
 refine eQ 111 1 ?_
 refine go0 19 [] [] ?_
 refine cQ [0,1,0,1,1] [.block 0,.seq [1,1,1]] (fun (k:Nat) X=>∃ (W1:Vw) (v:Value) (us:List Value),X W1 [(0,.slice A len c),(13,.slice A len c),(14,Vi (len:Int)),(15,Vi (k:Int)),(3,v)] [.row v 111 1 (us.map (fun u=>[u]))] []∧Sees h W1∧(k≤len)∧(NeedAll W1 ((jV fs).take k) us)) (fun k=>len - k) (0) (fun X q=>⟨h,(Vz),[],q _ _ _ _ ⟨rfl,by kernel_rfl⟩,Sees.refl _,Nat.zero_le _,rfl⟩) ?_
 rintro k a w ⟨W1,v,us,hJ,S2,hk,hus⟩; refine fQ hJ ?_; clear hJ a w
 refine go0 6 [] [] ?_
 rcases (by omega:k < len∨k=len) with hlt | hke
 ·obtain ⟨f,hfk⟩:∃ f,fs[k]?=some f:=⟨_,List.getElem?_eq_getElem (by omega)⟩
  obtain ⟨u,huk⟩:∃ u,vs[k]?=some u:=⟨_,List.getElem?_eq_getElem (by omega)⟩
  have hslu:=hsl u (List.mem_of_getElem? huk)
  have hrow:(kK fs vs)[k]?=some (fdRow f (.slice (sA u) (sN u) (sC u))):=by rw [hslu]; exact lK hfk huk
  have ha:IsArgs h f.src (.slice (sA u) (sN u) (sC u)):=by rw [hslu]; exact AllArgs.get hsrc (x:=f.src) (by rw [List.getElem?_map,hfk]; rfl) huk
  have hof:=hok.each f (List.mem_of_getElem? hfk)
  have hnk:(jV fs)[k]?=some (needE fs f):=by unfold jV; rw [List.getElem?_map,hfk]; rfl
  have hsn:=oX _ k _ hnk
  have hul:=hus.len
  rw [List.length_take,show (jV fs).length=len from by unfold jV; rw [List.length_map]; exact hL] at hul
  by_cases g:f.kind=1
  ·have hne:needE fs f=[]:=by unfold needE; rw [if_pos g]
   refine lQ (t:=decide ((k:Int) < (len:Int))) (decide_eq_true (by omega)) ?_
   refine go0 6 [] [] ?_
   obtain ⟨b3,o4,rfl,-,c5⟩:=RS.row hr (hrow)
   refine yK (c5.sees S2) ?_
   refine gov2 26 [.ix b3 o4 len c k,.f 0 0,.own,.b 0 0,.b 0 1,.fix] [(21,.bool (f.kind != 1),.bool false)] ?_ (ho:=(And.intro (by first | omega | (simp; omega)) (trivial))) (hc:=(And.intro (congrArg Value.bool (by simpa using g)) (trivial)))
   intro b6 b7 W8 S9
   refine goa0 9 [.ap 1 0 (us.map (fun u=>[u])) [[Vz]]] [(49,Vi (IntKind.i64.wrap ((k:Int) + 1)),Vi ((k:Int) + 1))] ?_ (ho:=(And.intro (by constructor <;> (simp; omega)) (trivial))) (hc:=(And.intro (jJ (by omega) (by omega)) (trivial)))
   intro v48 W10 S11
   refine aQ [(0,.slice (some ⟨b3,o4,none⟩) len c),(13,.slice (some ⟨b3,o4,none⟩) len c),(14,Vi (len:Int)),(3,.slice (sA v48) (sN v48) (sC v48)),(15,Vi ((k:Int) + 1))] [.row (.slice (sA v48) (sN v48) (sC v48)) 111 1 ((us.map (fun u=>[u]))++[[Vz]])] [] ?_
   exact kQ (k + 1) (fun X q=>⟨W10,.slice (sA v48) (sN v48) (sC v48),us++[Vz],q _ _ _ _ (wW (by rw [one_snoc]; try rfl)),(S2.trans (S9.trans S11)),by omega,by rw [hsn,hne]; exact NeedAll.snoc (RS.nil _ _) (hus.sees (S9.trans S11))⟩) (by omega)
  ·skip
   obtain ⟨w1,w2,w3⟩:=hof.wf g
   have hne:needE fs f=(fV f.src).map (plc fs):=by unfold needE; rw [if_neg g]
   have hnm:=fun H q=>nmOf_any f.src (.slice (sA u) (sN u) (sC u)) H q w1 (by omega) w3
   have hnl:=Nat.le_trans (namesE_len f.src) (refs_le f.src)
   rw [hne] at hsn
   generalize fV f.src=nm at *
   refine lQ (t:=decide ((k:Int) < (len:Int))) (decide_eq_true (by omega)) ?_
   refine go0 6 [] [] ?_
   obtain ⟨b12,o13,rfl,-,c14⟩:=RS.row hr (hrow)
   refine yK (c14.sees S2) ?_
   refine go1 24 [.ix b12 o13 len c k,.f 0 0,.own,.b 0 0,.b 0 1,.b 0 3] [(21,.bool (f.kind != 1),.bool true)] ?_ (ho:=(And.intro (by first | omega | (simp; omega)) (trivial))) (hc:=(And.intro (congrArg Value.bool (by simpa using g)) (trivial)))
   intro b15
   refine tK (fun H sH=>hnm _ (ha.sees (S2.trans sH))) ?_; rintro _ W16 S17 ⟨An,cn,rfl,hnr⟩
   refine go0 15 [] [] ?_
   refine eQ 3 1 ?_
   refine cQ [0,1,1,0,1,0,1,1,0,0,1,1,0,0,1,0,1,1] [.block 2,.seq [1,1,1,0,0,1,1,0,0,1,0,1,1],.block 1,.seq [1,1,1,0,0,1,0,1,1]] (fun (j:Nat) X=>∃ (W18:Vw) (mv:Value),X W18 [(0,.slice (some ⟨b12,o13,none⟩) len c),(13,.slice (some ⟨b12,o13,none⟩) len c),(14,Vi (len:Int)),(15,Vi (k:Int)),(3,v),(28,.slice An nm.length cn),(29,Vi (nm.length:Int)),(30,Vi (j:Int)),(6,mv)] [.row mv 3 1 (iV ((nm.map (plc fs)).take j)),.box b15 [.string f.name,Vi f.kind,Vi f.ty,Vi f.src.op,Vi f.src.k,Vi f.src.n,.string f.src.s,.string f.src.nm,.slice (sA u) (sN u) (sC u)],.row v 111 1 (us.map (fun u=>[u]))] [(b12,o13 + k * 9,[.string f.name,Vi f.kind,Vi f.ty,Vi f.src.op,Vi f.src.k,Vi f.src.n,.string f.src.s,.string f.src.nm,.slice (sA u) (sN u) (sC u)])]∧Sees W16 W18∧(j≤nm.length)) (fun j=>nm.length - j) (0) (fun X q=>⟨W16,(Vz),q _ _ _ _ ⟨rfl,by kernel_rfl⟩,Sees.refl _,Nat.zero_le _⟩) ?_
   rintro j a w ⟨W18,mv,hJ,S19,hj⟩; refine fQ hJ ?_; clear hJ a w
   refine go0 6 [] [] ?_
   rcases (by omega:j < nm.length∨j=nm.length) with hjl | hje
   ·obtain ⟨s,hs⟩:∃ s,nm[j]?=some s:=⟨_,List.getElem?_eq_getElem hjl⟩
    have hsr:(kX nm)[j]?=some [.string s]:=by show (nm.map _)[j]?=_; rw [List.getElem?_map,hs]; rfl
    have hjk:(nm.map (plc fs))[j]?=some (plc fs s):=by rw [List.getElem?_map,hs]; rfl
    have hjn:=oX _ j _ hjk
    refine lQ (t:=decide ((j:Int) < (nm.length:Int))) (decide_eq_true (by omega)) ?_
    refine go0 6 [] [] ?_
    obtain ⟨b20,o21,rfl,-,c22⟩:=RS.row hnr (hsr)
    refine yK (c22.sees S19) ?_
    refine pQ 21 [.ix b20 o21 nm.length cn j,.f 0 0,.cl 104 #[.slice (some ⟨b12,o13,none⟩) len c,.string s] (.tuple #[Vi ((plc fs s:Nat):Int),Vi (if oK fs s < 0 then 5 else 0)]),.fix] [] ?_ (ho:=(And.intro (by first | omega | (simp; omega)) (And.intro (fun H sH=>hFi _ s (hfs.sees (S2.trans (S17.trans (S19.trans sH))))) (trivial))))
    intro b23 W24 S25
    refine goa0 9 [.ap 0 0 (iV ((nm.map (plc fs)).take j)) [[Vi ((plc fs s:Nat):Int)]]] [(44,Vi (IntKind.i64.wrap ((j:Int) + 1)),Vi ((j:Int) + 1))] ?_ (ho:=(And.intro (by constructor <;> (simp; omega)) (trivial))) (hc:=(And.intro (jJ (by omega) (by omega)) (trivial)))
    intro v43 W26 S27
    refine aQ [(0,.slice (some ⟨b12,o13,none⟩) len c),(13,.slice (some ⟨b12,o13,none⟩) len c),(14,Vi (len:Int)),(15,Vi (k:Int)),(3,v),(28,.slice (some ⟨b20,o21,none⟩) nm.length cn),(29,Vi (nm.length:Int)),(6,.slice (sA v43) (sN v43) (sC v43)),(30,Vi ((j:Int) + 1))] [.row (.slice (sA v43) (sN v43) (sC v43)) 3 1 ((iV ((nm.map (plc fs)).take j))++[[Vi ((plc fs s:Nat):Int)]]),.box b15 [.string f.name,Vi f.kind,Vi f.ty,Vi f.src.op,Vi f.src.k,Vi f.src.n,.string f.src.s,.string f.src.nm,.slice (sA u) (sN u) (sC u)],.row v 111 1 (us.map (fun u=>[u]))] [(b12,o13 + k * 9,[.string f.name,Vi f.kind,Vi f.ty,Vi f.src.op,Vi f.src.k,Vi f.src.n,.string f.src.s,.string f.src.nm,.slice (sA u) (sN u) (sC u)])] ?_
    exact kQ (j + 1) (fun X q=>⟨W26,.slice (sA v43) (sN v43) (sC v43),q _ _ _ _ (wW (by rw [hjn,natRows_snoc])),(S19.trans (S25.trans S27)),by omega⟩) (by omega)
   ·skip
    have hta:(nm.map (plc fs)).take j=nm.map (plc fs):=by rw [hje,List.take_of_length_le (by rw [List.length_map]; omega)]
    rw [hta]
    have hml:(iV (nm.map (plc fs))).length=nm.length:=by simp
    refine g_form 0 (v:=mv) (e:=3) (kk:=1) (l:=iV (nm.map (plc fs))) ?_; intro Am cm hE_mv hc_mv hm_mv
    rw [show (iV (nm.map (plc fs))).length=nm.length from by first | omega | (simp; done) | (simp; omega)] at hE_mv hc_mv
    rw [hE_mv]
    refine g_freeze 0 (v:=.slice Am nm.length cm) (e:=3) (kk:=1) (l:=iV (nm.map (plc fs))) ?_; intro W28 S29 fm
    refine zK (t:=decide ((j:Int) < (nm.length:Int))) (decide_eq_false (by omega)) ?_
    refine go0 2 [] [] ?_
    refine bQ ?_
    refine pQ 6 [.fix] [] ?_
    intro b30 W31 S32
    refine goa0 9 [.ap 1 0 (us.map (fun u=>[u])) [[.slice Am nm.length cm]]] [(49,Vi (IntKind.i64.wrap ((k:Int) + 1)),Vi ((k:Int) + 1))] ?_ (ho:=(And.intro (by constructor <;> (simp; omega)) (trivial))) (hc:=(And.intro (jJ (by omega) (by omega)) (trivial)))
    intro v48 W33 S34
    refine aQ [(0,.slice (some ⟨b12,o13,none⟩) len c),(13,.slice (some ⟨b12,o13,none⟩) len c),(14,Vi (len:Int)),(3,.slice (sA v48) (sN v48) (sC v48)),(15,Vi ((k:Int) + 1))] [.row (.slice (sA v48) (sN v48) (sC v48)) 111 1 ((us.map (fun u=>[u]))++[[.slice Am nm.length cm]])] [] ?_
    exact kQ (k + 1) (fun X q=>⟨W33,.slice (sA v48) (sN v48) (sC v48),us++[.slice Am nm.length cm],q _ _ _ _ (wW (by rw [one_snoc]; try rfl)),(S2.trans (S17.trans (S19.trans (S29.trans (S32.trans S34))))),by omega,by rw [hsn]; exact NeedAll.snoc (fm.sees (S32.trans S34)) (hus.sees (S17.trans (S19.trans (S29.trans (S32.trans S34)))))⟩) (by omega)
 ·skip
  have hta:(jV fs).take k=jV fs:=by rw [hke,List.take_of_length_le (by unfold jV; rw [List.length_map]; omega)]
  rw [hta] at hus
  have hul:=hus.len
  have hrl:(us.map fun u=>[u]).length=len:=by rw [List.length_map,hul]; unfold jV; rw [List.length_map]; exact hL
  refine g_form 0 (v:=v) (e:=111) (kk:=1) (l:=us.map (fun u=>[u])) ?_; intro Ar cr hE_v hc_v hm_v
  rw [show (us.map (fun u=>[u])).length=len from by first | omega | (simp; done) | (simp; omega)] at hE_v hc_v
  rw [hE_v]
  refine zK (t:=decide ((k:Int) < (len:Int))) (decide_eq_false (by omega)) ?_
  refine go0 2 [] [] ?_
  refine bQ ?_
  refine go0 9 [] [] ?_
  refine aQ [(2,.slice Ar len cr)] [.row (.slice Ar len cr) 111 1 (us.map (fun u=>[u]))] [] ?_
  refine hQ.toJ [.slice Ar len cr] [] (fun a w hJ=>?_)
  have fr:=hJ.j.rowOut0 (v:=.slice Ar len cr) (e:=111) (k:=1) (l:=us.map (fun u=>[u])) 0 (by kernel_rfl) rfl
  exact ⟨Ar,cr,us,rfl,fr,(hus.sees hJ.j.out)⟩
abbrev pW (l:List Int):List (List Value):=l.map fun (k:Int)=>[Value.int .i64 k]
theorem rk_set (l:List Int) (i:Nat) (v:Int):(pW l).set i [.int .i64 v]=pW (l.set i v):=List.map_set.symm
theorem rk_get {l:List Int} {i:Nat} (h:i < l.length):(pW l)[i]?=some [.int .i64 (l.getD i 0)]:=by
 show (l.map _)[i]?=_
 rw [List.getElem?_map,List.getElem?_eq_getElem h,List.getD_eq_getElem?_getD,List.getElem?_eq_getElem h]; rfl
theorem mostA_cons (out:List Int) (a:Int) (k:Nat) (l:List Nat):dV out a (k :: l)=if out.getD k 0 < 0 then -1 else dV out (max a (out.getD k 0 + 1)) l:=rfl
theorem mostA_bd {out:List Int} {B:Int} (hB:∀ j,out.getD j 0≤B):∀ (l:List Nat) (a:Int),0≤a→dV out a l≤max a (B + 1) ∧ -1≤dV out a l
 | [],a,h=>by unfold dV; omega
 | k :: l,a,h=>by
  unfold dV
  split
  ·omega
  ·have h1:=mostA_bd hB l (max a (out.getD k 0 + 1)) (by omega)
   have:=hB k
   omega
theorem step_bd {need:List (List Nat)} {out:List Int} {B:Int} (h0:0≤B) (hB:∀ j,-1≤out.getD j 0∧out.getD j 0≤B) (i:Nat) (j:Nat) : -1≤(rkStep need out i).getD j 0∧(rkStep need out i).getD j 0≤B + 1:=by
 have hj:=hB j
 unfold rkStep
 by_cases hi:i < out.length
 ·rw [getD_set hi]
  split
  ·have h1:=mostA_bd (fun j=>(hB j).2) (need.getD i []) 0 (Int.le_refl _)
   have:=hB i
   omega
  ·omega
 ·rw [List.set_eq_of_length_le (by omega)]; omega
theorem round_bd {need:List (List Nat)} {out:List Int} {B:Int} (h0:0≤B) (hB:∀ j,-1≤out.getD j 0∧out.getD j 0≤B):∀ (i:Nat) (j:Nat),-1≤(qW need out i).getD j 0∧(qW need out i).getD j 0≤B + i
 | 0,j=>by have:=hB j; rw [qW]; omega
 | i + 1,j=>by
  have:=step_bd (need:=need) (out:=qW need out i) (B:=B + i) (by omega) (round_bd (need:=need) (out:=out) h0 hB i) i j
  rw [qW]
  omega
theorem ranks_bd (need:List (List Nat)):∀ (t:Nat) (j:Nat),-1≤(lW need t).getD j 0∧(lW need t).getD j 0≤((t * need.length:Nat):Int)
 | 0,j=>by
  rw [lW,List.getD_eq_getElem?_getD,List.getElem?_replicate]
  split <;> simp
 | t + 1,j=>by
  have:=round_bd (need:=need) (B:=((t * need.length:Nat):Int)) (by omega) (ranks_bd need t) need.length j
  rw [lW,Nat.succ_mul]
  omega
set_option maxHeartbeats 2000000 in
theorem ranks_any (need:List (List Nat)) (A:Option Addr) (cap:Nat) (us:List Value) (h:Vw) (hr:RS h 1 (.slice A need.length cap) (us.map fun u=>[u])) (hn:NeedAll h need us) (hlen:need.length≤14) (hb:∀ l∈need,l.length≤1000∧∀ k∈l,k < need.length) :
  C0 Tryz.prog 99 #[.slice A need.length cap] h (fun r h'=>∃ b,r=.slice (some ⟨b,0,none⟩) need.length need.length∧RS h' 1 r (pW (lW need need.length))):=by
 have hul:=hn.len
 have hrl:=ranks_len need
 have hol:=fun t i=>(round_len need (lW need t) i).trans (ranks_len need t)
 have hbd:∀ t,t≤14→∀ i,i≤14→∀ j,-1≤(qW need (lW need t) i).getD j 0∧(qW need (lW need t) i).getD j 0≤1000:=fun t ht i hi j=>by
  have h1:=round_bd (need:=need) (B:=((t * need.length:Nat):Int)) (by omega) (ranks_bd need t) i j
  have h2:t * need.length≤14 * 14:=Nat.mul_le_mul ht hlen
  omega
 have hst:∀ t i,qW need (lW need t) (i + 1)=(qW need (lW need t) i).set i (max ((qW need (lW need t) i).getD i 0) (dV (qW need (lW need t) i) 0 (need.getD i []))):=fun t i=>rfl
 have hrd:∀ t,qW need (lW need t) need.length=lW need (t + 1):=fun t=>rfl
 have h00:lW need 0=List.replicate need.length (-1):=rfl
 have hr0:∀ t,qW need (lW need t) 0=lW need t:=fun t=>rfl
 have hz:List.replicate need.length [Value.int .i64 0]=pW (List.replicate need.length 0):=by show _=List.map _ _; rw [List.map_replicate]
 generalize hL:need.length=n at *
 refine xK Tryz.func99 (c:=Tryz.f99.body.getD .skip) (N:=64) ?_
 intro hbx hbad Q hQ
 refine go0 9 [] [] ?_
 refine g_make1 (t:=111) (e:=3) (z:=Vi 0) (x:=(.tmp 11)) (by_:=8) (m:=n) (by kernel_rfl) Tryz.underlying111 (by kernel_rfl) rfl (by omega) (by omega) (by simp only [maxLen]; omega) ?_; intro bo
 refine go0 12 [] [] ?_
 rw [hz]
 refine cQ [0,1,0,1,1] [.block 0,.seq [1,1,1]] (fun (i:Nat) X=>∃ (W2:Vw) (ro:List Int),X W2 [(0,.slice A n cap),(3,Vs bo n n),(14,Vi (n:Int)),(15,Vi (i:Int))] [.row (Vs bo n n) 3 1 (pW ro)] []∧Sees h W2∧(i≤n)∧(ro=List.replicate i (-1)++List.replicate (n - i) 0)) (fun i=>n - i) (0) (fun X q=>⟨h,List.replicate n 0,q _ _ _ _ ⟨rfl,by kernel_rfl⟩,Sees.refl _,Nat.zero_le _,by simp⟩) ?_
 rintro i a w ⟨W2,ro,hJ,S3,hi,hro⟩; refine fQ hJ ?_; clear hJ a w
 refine go0 6 [] [] ?_
 rcases (by omega:i < n∨i=n) with hlt | hke
 ·have hol2:ro.length=n:=by rw [hro,List.length_append,List.length_replicate,List.length_replicate]; omega
  have hrow:=rk_get (l:=ro) (i:=i) (by omega)
  have hnx:ro.set i (-1)=List.replicate (i + 1) (-1)++List.replicate (n - (i + 1)) 0:=by
   rw [hro,List.set_append_right _ _ (by simp),List.length_replicate,Nat.sub_self,show n - i=(n - (i + 1)) + 1 by omega,List.replicate_succ,List.set_cons_zero,List.replicate_succ',List.append_assoc]; rfl
  refine lQ (t:=decide ((i:Int) < (n:Int))) (decide_eq_true (by omega)) ?_
  refine go0 14 [.ix bo 0 n n i] [] ?_ (ho:=(And.intro (by first | omega | (simp; omega)) (trivial)))
  refine g_rowset 0 i 0 (g:=bo) (m:=n) (cap:=n) (kk:=1) (e:=3) (l:=pW ro) (r:=[Vi (ro.getD i 0)]) (r':=[Vi (-1)]) (t:=3) (x:=(.tmp 20)) (y:=(.const (Vi (-1)))) (v:=Vi (-1)) (hrow) ?_
  refine go0 7 [] [(21,Vi (IntKind.i64.wrap ((i:Int) + 1)),Vi ((i:Int) + 1))] ?_ (hc:=(And.intro (jJ (by omega) (by omega)) (trivial)))
  refine aQ [(0,.slice A n cap),(3,Vs bo n n),(14,Vi (n:Int)),(15,Vi ((i:Int) + 1))] [.row (Vs bo n n) 3 1 ((pW ro).set i [Vi (-1)])] [] ?_
  exact kQ (i + 1) (fun X q=>⟨W2,ro.set i (-1),q _ _ _ _ (wW (by rw [rk_set])),S3,by omega,hnx⟩) (by omega)
 ·skip
  have hro2:ro=lW need 0:=by rw [hro,h00,hke,Nat.sub_self]; simp
  rw [hro2]
  refine zK (t:=decide ((i:Int) < (n:Int))) (decide_eq_false (by omega)) ?_
  refine go0 2 [] [] ?_
  refine bQ ?_
  refine go0 11 [] [] ?_
  refine cQ [0,1,0,1,1,1] [.block 2,.seq [1,1,1,1]] (fun (t:Nat) X=>∃ (W4:Vw) ,X W4 [(0,.slice A n cap),(3,Vs bo n n),(23,Vi (n:Int)),(24,Vi (t:Int))] [.row (Vs bo n n) 3 1 (pW (lW need t))] []∧Sees W2 W4∧(t≤n)) (fun t=>n - t) (0) (fun X q=>⟨W2,q _ _ _ _ ⟨rfl,by kernel_rfl⟩,Sees.refl _,Nat.zero_le _⟩) ?_
  rintro t a w ⟨W4,hJ,S5,ht⟩; refine fQ hJ ?_; clear hJ a w
  refine go0 6 [] [] ?_
  rcases (by omega:t < n∨t=n) with htl | hte
  ·refine lQ (t:=decide ((t:Int) < (n:Int))) (decide_eq_true (by omega)) ?_
   refine go0 12 [] [] ?_
   refine cQ [0,1,0,0,1,1,0,0,1,0,1,1,1] [.block 4,.block 3,.seq [1,1,1,0,0,1,0,1,1,1]] (fun (i2:Nat) X=>∃ (W6:Vw) ,X W6 [(0,.slice A n cap),(3,Vs bo n n),(23,Vi (n:Int)),(24,Vi (t:Int)),(26,.slice A n cap),(27,Vi (n:Int)),(28,Vi (i2:Int))] [.row (Vs bo n n) 3 1 (pW (qW need (lW need t) i2))] []∧Sees W4 W6∧(i2≤n)) (fun i2=>n - i2) (0) (fun X q=>⟨W4,q _ _ _ _ ⟨rfl,by kernel_rfl⟩,Sees.refl _,Nat.zero_le _⟩) ?_
   rintro i2 a w ⟨W6,hJ,S7,hi2⟩; refine fQ hJ ?_; clear hJ a w
   refine go0 6 [] [] ?_
   rcases (by omega:i2 < n∨i2=n) with hil | hie
   ·have ho:=hol t i2
    have hb2:=hbd t (by omega) i2 (by omega)
    have hsx:=hst t i2
    generalize qW need (lW need t) i2=o at *
    obtain ⟨l,hl⟩:∃ l,need[i2]?=some l:=⟨_,List.getElem?_eq_getElem (by omega)⟩
    obtain ⟨u,hu⟩:∃ u,us[i2]?=some u:=⟨_,List.getElem?_eq_getElem (by omega)⟩
    have hlg:need.getD i2 []=l:=by rw [List.getD_eq_getElem?_getD,hl]; rfl
    rw [hlg] at hsx
    obtain ⟨hll,hlk⟩:=hb l (List.mem_of_getElem? hl)
    have hlr:=NeedAll.get hn hl hu
    obtain ⟨Au,cu,rfl,-,-,-⟩:=hlr.form
    have hlm:(iV l).length=l.length:=by simp
    rw [hlm] at hlr hu
    have hrow:(us.map fun u=>[u])[i2]?=some [.slice Au l.length cu]:=by rw [List.getElem?_map,hu]; rfl
    have hrowi:=rk_get (l:=o) (i:=i2) (by omega)
    refine lQ (t:=decide ((i2:Int) < (n:Int))) (decide_eq_true (by omega)) ?_
    refine go0 7 [] [] ?_
    obtain ⟨b8,o9,rfl,-,c10⟩:=RS.row hr (hrow)
    refine yK (c10.sees (S3.trans (S5.trans S7))) ?_
    refine go0 20 [.ix b8 o9 n cap i2,.f 0 0] [] ?_ (ho:=(And.intro (by first | omega | (simp; omega)) (trivial)))
    refine cQ [0,1,0,1,1,0,0,1,1,0,0,1,0,0,1,1,0,0,1,0,1,1,1] [.block 6,.seq [1,1,1,0,0,1,1,0,0,1,0,0,1,1,0,0,1,0,1,1,1],.block 5,.seq [1,1,1,0,0,1,0,0,1,1,0,0,1,0,1,1,1]] (fun (j:Nat) X=>∃ (W11:Vw) (a0:Int),X W11 [(0,.slice (some ⟨b8,o9,none⟩) n cap),(3,Vs bo n n),(23,Vi (n:Int)),(24,Vi (t:Int)),(26,.slice (some ⟨b8,o9,none⟩) n cap),(27,Vi (n:Int)),(28,Vi (i2:Int)),(5,Vi (i2:Int)),(33,.slice Au l.length cu),(34,Vi (l.length:Int)),(35,Vi (j:Int)),(7,Vi a0)] [.row (Vs bo n n) 3 1 (pW o)] [(b8,o9 + i2 * 1,[.slice Au l.length cu])]∧Sees W6 W11∧(j≤l.length)∧(0≤a0)∧(a0≤2000)∧(dV o 0 l=dV o a0 (l.drop j))) (fun j=>l.length - j) (0) (fun X q=>⟨W6,0,q _ _ _ _ ⟨rfl,by kernel_rfl⟩,Sees.refl _,Nat.zero_le _,Int.le_refl _,by omega,rfl⟩) ?_
    rintro j a w ⟨W11,a0,hJ,S12,hj,ha0,ha1,hma⟩; refine fQ hJ ?_; clear hJ a w
    refine go0 6 [] [] ?_
    rcases (by omega:j < l.length∨j=l.length) with hjl | hje
    ·obtain ⟨k,hk⟩:∃ k,l[j]?=some k:=⟨_,List.getElem?_eq_getElem (by omega)⟩
     have hkn:=hlk k (List.mem_of_getElem? hk)
     have hrj:(iV l)[j]?=some [.int .i64 (k:Int)]:=by show (l.map _)[j]?=_; rw [List.getElem?_map,hk]; rfl
     have hrk:=rk_get (l:=o) (i:=k) (by omega)
     have hd:l.drop j=k :: l.drop (j + 1):=by
      have hx:=List.getElem?_eq_some_iff.1 hk
      obtain ⟨h1,h2⟩:=hx
      rw [← h2]; exact List.drop_eq_getElem_cons h1
     have hbk:=hb2 k
     have hbi:=hb2 i2
     rw [hd,mostA_cons] at hma
     by_cases q:o.getD k 0 < 0
     ·rw [if_pos q] at hma
      rw [hma] at hsx
      refine lQ (t:=decide ((j:Int) < (l.length:Int))) (decide_eq_true (by omega)) ?_
      refine go0 6 [] [] ?_
      obtain ⟨b13,o14,rfl,-,c15⟩:=RS.row hlr (hrj)
      refine yK (c15.sees (S3.trans (S5.trans (S7.trans S12)))) ?_
      refine go0 11 [.ix b13 o14 l.length cu j,.f 0 0,.ix bo 0 n n k] [] ?_ (ho:=(And.intro (by first | omega | (simp; omega)) (And.intro (by first | omega | (simp; omega)) (trivial))))
      refine g_rowget 0 k 0 (g:=bo) (m:=n) (cap:=n) (kk:=1) (e:=3) (l:=pW o) (r:=[Vi (o.getD k 0)]) (t:=3) (x:=(.tmp 41)) (v:=Vi (o.getD k 0)) (hrk) ?_
      refine go0 3 [] [] ?_
      refine lQ (t:=decide ((o.getD k 0) < 0)) (decide_eq_true q) ?_
      refine go0 9 [] [] ?_
      refine bQ ?_
      refine go0 8 [.ix bo 0 n n i2] [] ?_ (ho:=(And.intro (by first | omega | (simp; omega)) (trivial)))
      refine g_rowget 0 i2 0 (g:=bo) (m:=n) (cap:=n) (kk:=1) (e:=3) (l:=pW o) (r:=[Vi (o.getD i2 0)]) (t:=3) (x:=(.tmp 56)) (v:=Vi (o.getD i2 0)) (hrowi) ?_
      refine go0 3 [.ix bo 0 n n i2] [(59,Vi (if (-1:Int) > (o.getD i2 0) then (-1:Int) else (o.getD i2 0)),Vi (max (o.getD i2 0) (-1)))] ?_ (ho:=(And.intro (by first | omega | (simp; omega)) (trivial))) (hc:=(And.intro (congrArg (Value.int .i64) (by split <;> omega)) (trivial)))
      refine g_rowset 0 i2 0 (g:=bo) (m:=n) (cap:=n) (kk:=1) (e:=3) (l:=pW o) (r:=[Vi (o.getD i2 0)]) (r':=[Vi (max (o.getD i2 0) (-1))]) (t:=3) (x:=(.tmp 60)) (y:=(.tmp 59)) (v:=Vi (max (o.getD i2 0) (-1))) (hrowi) ?_
      refine go0 7 [] [(61,Vi (IntKind.i64.wrap ((i2:Int) + 1)),Vi ((i2:Int) + 1))] ?_ (hc:=(And.intro (jJ (by omega) (by omega)) (trivial)))
      refine aQ [(0,.slice (some ⟨b8,o9,none⟩) n cap),(3,Vs bo n n),(23,Vi (n:Int)),(24,Vi (t:Int)),(26,.slice (some ⟨b8,o9,none⟩) n cap),(27,Vi (n:Int)),(28,Vi ((i2:Int) + 1))] [.row (Vs bo n n) 3 1 ((pW o).set i2 [Vi (max (o.getD i2 0) (-1))])] [] ?_
      exact kQ (i2 + 1) (fun X q=>⟨W11,q _ _ _ _ (wW (by rw [hsx,rk_set])),(S7.trans S12),by omega⟩) (by omega)
     ·skip
      rw [if_neg q] at hma
      refine lQ (t:=decide ((j:Int) < (l.length:Int))) (decide_eq_true (by omega)) ?_
      refine go0 6 [] [] ?_
      obtain ⟨b16,o17,rfl,-,c18⟩:=RS.row hlr (hrj)
      refine yK (c18.sees (S3.trans (S5.trans (S7.trans S12)))) ?_
      refine go0 11 [.ix b16 o17 l.length cu j,.f 0 0,.ix bo 0 n n k] [] ?_ (ho:=(And.intro (by first | omega | (simp; omega)) (And.intro (by first | omega | (simp; omega)) (trivial))))
      refine g_rowget 0 k 0 (g:=bo) (m:=n) (cap:=n) (kk:=1) (e:=3) (l:=pW o) (r:=[Vi (o.getD k 0)]) (t:=3) (x:=(.tmp 41)) (v:=Vi (o.getD k 0)) (hrk) ?_
      refine go0 3 [] [] ?_
      refine zK (t:=decide ((o.getD k 0) < 0)) (decide_eq_false q) ?_
      refine go0 7 [.ix bo 0 n n k] [] ?_ (ho:=(And.intro (by first | omega | (simp; omega)) (trivial)))
      refine g_rowget 0 k 0 (g:=bo) (m:=n) (cap:=n) (kk:=1) (e:=3) (l:=pW o) (r:=[Vi (o.getD k 0)]) (t:=3) (x:=(.tmp 47)) (v:=Vi (o.getD k 0)) (hrk) ?_
      refine go0 10 [] [(49,Vi (IntKind.i64.wrap (o.getD k 0 + 1)),Vi (o.getD k 0 + 1)),(50,Vi (if (o.getD k 0 + 1) > a0 then (o.getD k 0 + 1) else a0),Vi (max a0 (o.getD k 0 + 1))),(51,Vi (IntKind.i64.wrap ((j:Int) + 1)),Vi ((j:Int) + 1))] ?_ (hc:=(And.intro (jJ (by omega) (by omega)) (And.intro (congrArg (Value.int .i64) (by split <;> omega)) (And.intro (jJ (by omega) (by omega)) (trivial)))))
      exact kQ (j + 1) (fun X q=>⟨W11,max a0 (o.getD k 0 + 1),q _ _ _ _ ⟨rfl,by kernel_rfl⟩,S12,by omega,by omega,by omega,hma⟩) (by omega)
    ·skip
     have hma2:dV o 0 l=a0:=by rw [hma,hje,List.drop_length]; rfl
     rw [hma2] at hsx
     have hbi:=hb2 i2
     refine zK (t:=decide ((j:Int) < (l.length:Int))) (decide_eq_false (by omega)) ?_
     refine go0 2 [] [] ?_
     refine bQ ?_
     refine go0 8 [.ix bo 0 n n i2] [] ?_ (ho:=(And.intro (by first | omega | (simp; omega)) (trivial)))
     refine g_rowget 0 i2 0 (g:=bo) (m:=n) (cap:=n) (kk:=1) (e:=3) (l:=pW o) (r:=[Vi (o.getD i2 0)]) (t:=3) (x:=(.tmp 56)) (v:=Vi (o.getD i2 0)) (hrowi) ?_
     refine go0 3 [.ix bo 0 n n i2] [(59,Vi (if a0 > (o.getD i2 0) then a0 else (o.getD i2 0)),Vi (max (o.getD i2 0) a0))] ?_ (ho:=(And.intro (by first | omega | (simp; omega)) (trivial))) (hc:=(And.intro (congrArg (Value.int .i64) (by split <;> omega)) (trivial)))
     refine g_rowset 0 i2 0 (g:=bo) (m:=n) (cap:=n) (kk:=1) (e:=3) (l:=pW o) (r:=[Vi (o.getD i2 0)]) (r':=[Vi (max (o.getD i2 0) a0)]) (t:=3) (x:=(.tmp 60)) (y:=(.tmp 59)) (v:=Vi (max (o.getD i2 0) a0)) (hrowi) ?_
     refine go0 7 [] [(61,Vi (IntKind.i64.wrap ((i2:Int) + 1)),Vi ((i2:Int) + 1))] ?_ (hc:=(And.intro (jJ (by omega) (by omega)) (trivial)))
     refine aQ [(0,.slice (some ⟨b8,o9,none⟩) n cap),(3,Vs bo n n),(23,Vi (n:Int)),(24,Vi (t:Int)),(26,.slice (some ⟨b8,o9,none⟩) n cap),(27,Vi (n:Int)),(28,Vi ((i2:Int) + 1))] [.row (Vs bo n n) 3 1 ((pW o).set i2 [Vi (max (o.getD i2 0) a0)])] [] ?_
     exact kQ (i2 + 1) (fun X q=>⟨W11,q _ _ _ _ (wW (by rw [hsx,rk_set])),(S7.trans S12),by omega⟩) (by omega)
   ·skip
    refine zK (t:=decide ((i2:Int) < (n:Int))) (decide_eq_false (by omega)) ?_
    refine go0 2 [] [] ?_
    refine bQ ?_
    refine go0 7 [] [(62,Vi (IntKind.i64.wrap ((t:Int) + 1)),Vi ((t:Int) + 1))] ?_ (hc:=(And.intro (jJ (by omega) (by omega)) (trivial)))
    refine aQ [(0,.slice A n cap),(3,Vs bo n n),(23,Vi (n:Int)),(24,Vi ((t:Int) + 1))] [.row (Vs bo n n) 3 1 (pW (qW need (lW need t) i2))] [] ?_
    exact kQ (t + 1) (fun X q=>⟨W6,q _ _ _ _ (wW (by rw [hie,hrd])),(S5.trans S7),by omega⟩) (by omega)
  ·skip
   refine zK (t:=decide ((t:Int) < (n:Int))) (decide_eq_false (by omega)) ?_
   refine go0 2 [] [] ?_
   refine bQ ?_
   refine go0 9 [] [] ?_
   refine aQ [(2,Vs bo n n)] [.row (Vs bo n n) 3 1 (pW (lW need t))] [] ?_
   refine hQ.toJ [Vs bo n n] [] (fun a w hJ=>?_)
   have fr:=hJ.j.rowOut0 (v:=Vs bo n n) (e:=3) (k:=1) (l:=pW (lW need t)) 0 (by kernel_rfl) rfl
   exact ⟨bo,rfl,by rw [hte] at fr; exact fr⟩
end Go.Proofs.YthplkompdehjlaaGreatDoor
namespace Go.Proofs.YthplkompdehjlaaGreatDoor
open Go.RowKit
set_option linter.unusedVariables false
theorem pgRows_take:∀ (k:Nat) {l:List Pg} {us vs:List Value},us.length=l.length→vs.length=l.length→(xV l us vs).take k=xV (l.take k) (us.take k) (vs.take k)
 | 0,l,us,vs,_,_=>by simp [xV]
 | k + 1,[],[],[],_,_=>rfl
 | k + 1,p :: l,u :: us,v :: vs,h1,h2=>by
  show (pgRow p u v :: xV l us vs).take (k + 1)=pgRow p u v :: xV (l.take k) (us.take k) (vs.take k)
  rw [List.take_succ_cons,pgRows_take k (by simpa using h1) (by simpa using h2)]
theorem AllStr.take {h:Vw}:∀ (k:Nat) {l:List (List ByteArray)} {us:List Value},AllStr h l us→AllStr h (l.take k) (us.take k)
 | 0,_,_,_=>rfl
 | k + 1,[],_,e=>by cases e; rfl
 | k + 1,x :: l,_,⟨u,r,e,k1,k2⟩=>by subst e; exact ⟨u,r.take k,rfl,k1,AllStr.take k k2⟩
theorem pgs_take {h:Vw} {A:Option Addr} {cap:Nat} {l:List Pg} (hp:IsPgs h (.slice A l.length cap) l) (k:Nat) (hk:k≤l.length):IsPgs h (.slice A k cap) (l.take k):=by
 obtain ⟨us,vs,hr,hs,ha⟩:=hp
 have hu:=hs.len
 have hv:=ha.len
 rw [List.length_map] at hu hv
 refine ⟨us.take k,vs.take k,?_,?_,?_⟩
 ·have:=hr.take k (by rw [yV hu hv]; omega)
  rwa [pgRows_take k hu hv] at this
 ·rw [List.map_take]; exact AllStr.take k hs
 ·rw [List.map_take]; exact AllArgs.take' k ha
structure OkGs (fs:List Fd) (l:List Pg):Prop where
 one:1≤l.length
 few:l.length≤6
 name:∀ p∈l,oJ p.name.data.toList
 nodup:(l.map (·.name)).Nodup
 fl:∀ p∈l,p.fields.length≤100
 here:∀ p∈l,∀ s∈p.fields,0≤oK fs s
 once:(l.flatMap (·.fields)).Nodup
 skip:∀ p∈l,p.skip=zE∨(p.skip.op≠0∧WfE p.skip∧(szE p.skip).1 < 1000000∧fitsE fs p.skip 2=0)
set_option maxHeartbeats 8000000 in
theorem pgCheck_any (fs:List Fd) (fv:Value) (l:List Pg) (v:Value) (h:Vw) (hok:OkGs fs l) (hp:IsPgs h v l) (hfs:IsFds h fv fs) (hfl:fs.length≤1000):C0 Tryz.prog 71 #[v,fv] h (fun r _=>r=.int .i64 0):=by
 obtain ⟨us,vs,A,cap,rfl,hcap,hr,hs,ha,hul,hvl⟩:=pgs_open hp
 have hlc:l.length≤cap:=by
  obtain ⟨A',c',e',h1,-,-⟩:=hr.form
  rw [yV hul hvl] at h1
  simp only [Value.slice.injEq] at e'
  omega
 obtain ⟨-,Af,cf,rfl,-,-,-,-,-,-⟩:=nK hfs
 have one:=hok.one
 have few:=hok.few
 have hat:=fun i p hp=>pg_at (i:=i) (p:=p) hs ha hp
 have htk:=fun k hk=>pgs_take (h:=h) (A:=A) (cap:=cap) (l:=l) hp k hk
 have hFi:=fun H s q=>findP_any fs (.slice Af fs.length cf) s H q (by omega)
 have hGf:=fun k H s q=>gFind_any (l.take k) (.slice A k cap) s H q (by rw [List.length_take]; omega) (fun p hp=>by have:=hok.fl p (List.mem_of_mem_take hp); omega)
 generalize hL:l.length=len at *
 generalize hM:fs.length=fl at *
 refine xK Tryz.func71 (c:=Tryz.f71.body.getD .skip) (N:=82) ?_
 intro hbx hbad Q hQ
 refine go0 35 [] [(18,.bool (decide ((len:Int) < 1)),.bool false),(22,.bool (decide ((len:Int) > 6)),.bool false)] ?_ (hc:=(And.intro (congrArg Value.bool (decide_eq_false (by omega))) (And.intro (congrArg Value.bool (decide_eq_false (by omega))) (trivial))))
 refine eQ 9 1 ?_
 refine cQ [0,1,0,1,1,1] [.block 0,.seq [1,1,1,1]] (fun (k:Nat) X=>∃ (W1:Vw) (mv:Value),X W1 [(0,.slice A len cap),(1,.slice Af fl cf),(24,.slice A len cap),(25,Vi (len:Int)),(26,Vi (k:Int)),(5,mv)] [.row mv 9 1 (kX ((l.take k).flatMap (·.fields)))] []∧Sees h W1∧(k≤len)) (fun k=>len - k) (0) (fun X q=>⟨h,(Vz),q _ _ _ _ ⟨rfl,by kernel_rfl⟩,Sees.refl _,Nat.zero_le _⟩) ?_
 rintro k a w ⟨W1,mv,hJ,S2,hk⟩; refine fQ hJ ?_; clear hJ a w
 refine go0 6 [] [] ?_
 rcases (by omega:k < len∨k=len) with hlt | hke
 ·obtain ⟨p,hpk⟩:∃ p,l[k]?=some p:=⟨_,List.getElem?_eq_getElem (by omega)⟩
  have hpm:=List.mem_of_getElem? hpk
  obtain ⟨Au,cu,Bu,mu,du,hrow,hrs,hxa⟩:=hat k p hpk
  have hnm:=hok.name p hpm
  have htp:=htk k hk
  have hno:findG (l.take k) p.name = -1:=fidx_none _ _ fun y hy=>tl_no fun e=>by
   obtain ⟨j,hj⟩:=List.mem_iff_getElem?.1 hy
   rw [List.getElem?_take] at hj
   split at hj
   ·rename_i hjk
    have h1:(l.map (fun p:Pg=>p.name))[j]?=some p.name:=by rw [List.getElem?_map,hj]; simp [e]
    have h2:(l.map (fun p:Pg=>p.name))[k]?=some p.name:=by rw [List.getElem?_map,hpk]; rfl
    have:=(List.getElem?_inj (by rw [List.length_map]; omega) hok.nodup).1 (h1.trans h2.symm)
    omega
   ·cases hj
  have hGk:=fun H q=>hGf k H p.name q
  rw [hno] at hGk
  have hfk:=hok.fl p hpm
  have hhere:=hok.here p hpm
  have hsn:(l.take (k + 1)).flatMap (fun p:Pg=>p.fields)=(l.take k).flatMap (fun p:Pg=>p.fields)++p.fields:=by rw [oX l k p hpk,List.flatMap_append]; simp
  have hone:((l.take k).flatMap (fun p:Pg=>p.fields)++p.fields).Nodup:=by
   rw [← hsn]
   have ho:=hok.once
   have e:l.flatMap (fun p:Pg=>p.fields)=(l.take (k + 1)).flatMap (fun p:Pg=>p.fields)++(l.drop (k + 1)).flatMap (fun p:Pg=>p.fields):=by rw [← List.flatMap_append,List.take_append_drop]
   rw [e] at ho
   exact (List.nodup_append.1 ho).1
  have hdl:((l.take k).flatMap (fun p:Pg=>p.fields)).length≤600:=by
   have key:∀ m:List Pg,(∀ p∈m,p.fields.length≤100)→(m.flatMap (fun p:Pg=>p.fields)).length≤100 * m.length:=by
    intro m
    induction m with
    | nil=>intro _; simp
    | cons q m ih =>
     intro hm
     have h1:=hm q (by simp)
     have h2:=ih fun z hz=>hm z (by simp [hz])
     rw [List.flatMap_cons,List.length_append,List.length_cons]
     omega
   have:=key (l.take k) fun q hq=>hok.fl q (List.mem_of_mem_take hq)
   rw [List.length_take] at this
   omega
  have hskip:=hok.skip p hpm
  generalize (l.take k).flatMap (fun p:Pg=>p.fields)=dn at *
  refine lQ (t:=decide ((k:Int) < (len:Int))) (decide_eq_true (by omega)) ?_
  refine go0 7 [] [] ?_
  obtain ⟨b3,o4,rfl,-,c5⟩:=RS.row hr (hrow)
  refine yK (c5.sees S2) ?_
  refine go1 27 [.ix b3 o4 len cap k,.f 0 0,.own,.b 0 0,.b 0 0,.cl 65 #[.string p.name] (Vi 0)] [] ?_ (ho:=(And.intro (by first | omega | (simp; omega)) (And.intro (fun H sH=>c_name _ _ hnm) (trivial))))
  intro b6
  refine iQ 11 0 [.pu,.pu,.v (fun gh=>.slice (some ⟨b3,o4,none⟩) k cap),.pu,.ld 0 0,.v (fun gh=>.tuple #[Vi 0,Vi 5]),.pu,.pu,.pu,.pu,.pu] [] (trivial) ?_ ?_
  ·intro R hT hA hmono
   refine And.intro (t_p hT hA (fun gh=>.slice (some ⟨b3,o4,none⟩) k cap) (fun gh w=>run_hi (t:=39) (e:=80) (x:=(.tmp 38)) (y:=(.tmp 39)) (A:=(some ⟨b3,o4,none⟩)) (n:=len) (cap:=cap) (k:=k) (kk:=8) (by kernel_rfl) (by kernel_rfl) (by kernel_rfl) (by omega) Tryz.underlying39 (by kernel_rfl))) ?_
   refine And.intro (t_v hT hA hmono (k:=103) (args:=(fun gh=>#[.slice (some ⟨b3,o4,none⟩) k cap,.string p.name])) (f:=fun gh=>.tuple #[Vi 0,Vi 5]) (fun gh H sH fH lent=>hGk _ (htp.sees (S2.trans sH)))) ?_
   trivial
  rintro W7 S8 -
  refine go0 20 [.b 0 1] [] ?_
  have hd0:kX dn=kX (dn++p.fields.take 0):=by simp
  rw [hd0]
  refine cQ [0,1,0,1,1,1,0,0,1,1,0,0,1,0,1,1,1] [.block 2,.seq [1,1,1,1,0,0,1,1,0,0,1,0,1,1,1],.block 1,.seq [1,1,1,0,0,1,0,1,1,1]] (fun (j:Nat) X=>∃ (W9:Vw) (nv:Value),X W9 [(0,.slice (some ⟨b3,o4,none⟩) len cap),(1,.slice Af fl cf),(24,.slice (some ⟨b3,o4,none⟩) len cap),(25,Vi (len:Int)),(26,Vi (k:Int)),(7,Vp b6),(49,.slice Au p.fields.length cu),(50,Vi (p.fields.length:Int)),(51,Vi (j:Int)),(5,nv)] [.box b6 [.string p.name,.slice Au p.fields.length cu,Vi p.skip.op,Vi p.skip.k,Vi p.skip.n,.string p.skip.s,.string p.skip.nm,.slice Bu mu du],.row nv 9 1 (kX (dn++p.fields.take j))] [(b3,o4 + k * 8,[.string p.name,.slice Au p.fields.length cu,Vi p.skip.op,Vi p.skip.k,Vi p.skip.n,.string p.skip.s,.string p.skip.nm,.slice Bu mu du])]∧Sees W7 W9∧(j≤p.fields.length)) (fun j=>p.fields.length - j) (0) (fun X q=>⟨W7,mv,q _ _ _ _ ⟨rfl,by kernel_rfl⟩,Sees.refl _,Nat.zero_le _⟩) ?_
  rintro j a w ⟨W9,nv,hJ,S10,hj⟩; refine fQ hJ ?_; clear hJ a w
  refine go0 6 [] [] ?_
  rcases (by omega:j < p.fields.length∨j=p.fields.length) with hjl | hje
  ·obtain ⟨s,hsj⟩:∃ s,p.fields[j]?=some s:=⟨_,List.getElem?_eq_getElem hjl⟩
   have hsr:=str_row hsj
   have hse:oK fs s=((plc fs s:Nat):Int):=by have:=hhere s (List.mem_of_getElem? hsj); unfold plc; omega
   have hFs:=fun H q=>hFi H s q
   rw [if_neg (by omega)] at hFs
   have hjn:=oX _ j s hsj
   have hnin:memS (dn++p.fields.take j) s=false:=by
    rw [Bool.eq_false_iff]
    intro q
    have q:=memS_iff.1 q
    rcases List.mem_append.1 q with q | q
    ·exact (List.nodup_append.1 hone).2.2 s q s (List.mem_of_getElem? hsj) rfl
    ·have hd:=(List.nodup_append.1 hone).2.1
     obtain ⟨i,hi⟩:=List.mem_iff_getElem?.1 q
     rw [List.getElem?_take] at hi
     split at hi
     ·have:=(List.getElem?_inj (by omega) hd).1 (hi.trans hsj.symm); omega
     ·cases hi
   have hco:=fun H u q=>contS_any (dn++p.fields.take j) u s H q (by rw [List.length_append,List.length_take]; omega)
   rw [hnin] at hco
   refine lQ (t:=decide ((j:Int) < (p.fields.length:Int))) (decide_eq_true (by omega)) ?_
   refine go0 6 [] [] ?_
   obtain ⟨b11,o12,rfl,-,c13⟩:=RS.row hrs (hsr)
   refine yK (c13.sees (S2.trans (S8.trans S10))) ?_
   refine go0 32 [.ix b11 o12 p.fields.length cu j,.f 0 0,.cl 104 #[.slice Af fl cf,.string s] (.tuple #[Vi ((plc fs s:Nat):Int),Vi 0])] [] ?_ (ho:=(And.intro (by first | omega | (simp; omega)) (And.intro (fun H sH=>hFs _ (hfs.sees (S2.trans (S8.trans (S10.trans sH))))) (trivial))))
   refine g_callq (fun a w hJ=>hco _ _ (hJ.j.rowQ (v:=nv) (e:=9) (k:=1) (l:=kX (dn++p.fields.take j)) 1 (by kernel_rfl))) ?_; intro W14 S15
   refine pQ 9 [.fix] [] ?_
   intro b16 W17 S18
   refine goa0 9 [.ap 1 0 (kX (dn++p.fields.take j)) [[.string s]]] [(71,Vi (IntKind.i64.wrap ((j:Int) + 1)),Vi ((j:Int) + 1))] ?_ (ho:=(And.intro (by constructor <;> (simp; omega)) (trivial))) (hc:=(And.intro (jJ (by omega) (by omega)) (trivial)))
   intro v70 W19 S20
   refine aQ [(0,.slice (some ⟨b3,o4,none⟩) len cap),(1,.slice Af fl cf),(24,.slice (some ⟨b3,o4,none⟩) len cap),(25,Vi (len:Int)),(26,Vi (k:Int)),(7,Vp b6),(49,.slice (some ⟨b11,o12,none⟩) p.fields.length cu),(50,Vi (p.fields.length:Int)),(5,.slice (sA v70) (sN v70) (sC v70)),(51,Vi ((j:Int) + 1))] [.box b6 [.string p.name,.slice (some ⟨b11,o12,none⟩) p.fields.length cu,Vi p.skip.op,Vi p.skip.k,Vi p.skip.n,.string p.skip.s,.string p.skip.nm,.slice Bu mu du],.row (.slice (sA v70) (sN v70) (sC v70)) 9 1 ((kX (dn++p.fields.take j))++[[.string s]])] [(b3,o4 + k * 8,[.string p.name,.slice (some ⟨b11,o12,none⟩) p.fields.length cu,Vi p.skip.op,Vi p.skip.k,Vi p.skip.n,.string p.skip.s,.string p.skip.nm,.slice Bu mu du])] ?_
   exact kQ (j + 1) (fun X q=>⟨W19,.slice (sA v70) (sN v70) (sC v70),q _ _ _ _ (wW (by rw [hjn,← List.append_assoc]; simp [kX])),(S10.trans (S15.trans (S18.trans S20))),by omega⟩) (by omega)
  ·skip
   have hta:dn++p.fields.take j=dn++p.fields:=by rw [hje,List.take_length]
   rw [hta]
   rcases hskip with hz | ⟨z1,z2,z3,z4⟩
   ·obtain ⟨Bz,dz,ez⟩:=args_zero (by rw [hz]; rfl) hxa
    obtain rfl:mu=0:=by simp only [Value.slice.injEq] at ez; exact ez.2.1
    have hnv:=fun H=>never_yes p.name Au p.fields.length cu Bu du H
    refine zK (t:=decide ((j:Int) < (p.fields.length:Int))) (decide_eq_false (by omega)) ?_
    refine go0 2 [] [] ?_
    refine bQ ?_
    refine go0 18 [.b 0 0,.cl 72 #[.agg #[.string p.name,.slice Au p.fields.length cu,Vi p.skip.op,Vi p.skip.k,Vi p.skip.n,.string p.skip.s,.string p.skip.nm,.slice Bu 0 du]] (.bool true)] [(81,Vi (IntKind.i64.wrap ((k:Int) + 1)),Vi ((k:Int) + 1))] ?_ (ho:=(And.intro (fun H sH=>by rw [hz]; exact hnv _) (trivial))) (hc:=(And.intro (jJ (by omega) (by omega)) (trivial)))
    refine aQ [(0,.slice (some ⟨b3,o4,none⟩) len cap),(1,.slice Af fl cf),(24,.slice (some ⟨b3,o4,none⟩) len cap),(25,Vi (len:Int)),(5,nv),(26,Vi ((k:Int) + 1))] [.row nv 9 1 (kX (dn++p.fields))] [] ?_
    exact kQ (k + 1) (fun X q=>⟨W9,nv,q _ _ _ _ (wW (by rw [hsn]; try rfl)),(S2.trans (S8.trans S10)),by omega⟩) (by omega)
   ·skip
    have hnv:=fun H=>never_no p.name p.skip Au p.fields.length cu Bu mu du H z1
    have hft:=fun H q1 q2=>fits_any fs p.skip (.slice Bu mu du) (.slice Af fl cf) 2 H q1 z2 z3 q2
    rw [z4] at hft
    refine zK (t:=decide ((j:Int) < (p.fields.length:Int))) (decide_eq_false (by omega)) ?_
    refine go0 2 [] [] ?_
    refine bQ ?_
    refine go0 35 [.b 0 0,.cl 72 #[.agg #[.string p.name,.slice Au p.fields.length cu,Vi p.skip.op,Vi p.skip.k,Vi p.skip.n,.string p.skip.s,.string p.skip.nm,.slice Bu mu du]] (.bool false),.b 0 2,.cl 106 #[.agg #[Vi p.skip.op,Vi p.skip.k,Vi p.skip.n,.string p.skip.s,.string p.skip.nm,.slice Bu mu du],.slice Af fl cf,Vi 2] (Vi 0)] [(81,Vi (IntKind.i64.wrap ((k:Int) + 1)),Vi ((k:Int) + 1))] ?_ (ho:=(And.intro (fun H sH=>hnv _) (And.intro (fun H sH=>hft _ (hxa.sees (S2.trans (S8.trans (S10.trans sH)))) (hfs.sees (S2.trans (S8.trans (S10.trans sH))))) (trivial)))) (hc:=(And.intro (jJ (by omega) (by omega)) (trivial)))
    refine aQ [(0,.slice (some ⟨b3,o4,none⟩) len cap),(1,.slice Af fl cf),(24,.slice (some ⟨b3,o4,none⟩) len cap),(25,Vi (len:Int)),(5,nv),(26,Vi ((k:Int) + 1))] [.row nv 9 1 (kX (dn++p.fields))] [] ?_
    exact kQ (k + 1) (fun X q=>⟨W9,nv,q _ _ _ _ (wW (by rw [hsn]; try rfl)),(S2.trans (S8.trans S10)),by omega⟩) (by omega)
 ·skip
  refine zK (t:=decide ((k:Int) < (len:Int))) (decide_eq_false (by omega)) ?_
  refine go0 2 [] [] ?_
  refine bQ ?_
  refine go0 8 [] [] ?_
  refine hQ.to [Vi 0] (fun H sH=>?_)
  exact rfl
end Go.Proofs.YthplkompdehjlaaGreatDoor
namespace Go.Proofs.YthplkompdehjlaaGreatDoor
open Go.RowKit
set_option linter.unusedVariables false
theorem ofc_any (x:Int) (h:Vw):C0 Tryz.prog 101 #[.int .i64 x] h (fun r _=>r=.bool (decide (x < 0))):=by
 refine xK Tryz.func101 (c:=Tryz.f101.body.getD .skip) (N:=5) ?_
 intro hbx hbad Q hQ
 refine go0 13 [] [] ?_
 refine hQ.to [.bool (decide (x < 0))] (fun H sH=>?_)
 exact rfl
theorem rk_row {l:List Int} {k:Nat} {x:Int} (h:l[k]?=some x):(pW l)[k]?=some [.int .i64 x]:=by show (l.map _)[k]?=_; rw [List.getElem?_map,h]; rfl
theorem idxI_any (l:List Int) (A:Option Addr) (cap:Nat) (h:Vw) (hr:RS h 1 (.slice A l.length cap) (pW l)) (hl:l.length≤1000000) (hn:∀ x∈l,0≤x) :
  C0 Tryz.prog 126 #[.slice A l.length cap,.func (.func 101) #[] #[]] h (fun r _=>r=.int .i64 (-1)):=by
 generalize hL:l.length=len at *
 refine xK Tryz.func126 (c:=Tryz.f126.body.getD .skip) (N:=19) ?_
 intro hbx hbad Q hQ
 refine go0 14 [] [] ?_
 refine cQ [0,1,0,1] [.block 0,.seq [1,1]] (fun (k:Nat) X=>∃ (W1:Vw) ,X W1 [(0,.slice A len cap),(1,.func (.func 101) #[] #[]),(7,Vi (len:Int)),(8,Vi (k:Int))] [] []∧Sees h W1∧(k≤len)) (fun k=>len - k) (0) (fun X q=>⟨h,q _ _ _ _ ⟨rfl,by kernel_rfl⟩,Sees.refl _,Nat.zero_le _⟩) ?_
 rintro k a w ⟨W1,hJ,S2,hk⟩; refine fQ hJ ?_; clear hJ a w
 refine go0 6 [] [] ?_
 rcases (by omega:k < len∨k=len) with hlt | hke
 ·obtain ⟨x,hxk⟩:∃ x,l[k]?=some x:=⟨_,List.getElem?_eq_getElem (by omega)⟩
  have hrow:=rk_row hxk
  have hx0:=hn x (List.mem_of_getElem? hxk)
  have hof:=fun H=>ofc_any x H
  rw [show decide (x < 0)=false from decide_eq_false (by omega)] at hof
  refine lQ (t:=decide ((k:Int) < (len:Int))) (decide_eq_true (by omega)) ?_
  refine go0 15 [] [] ?_
  obtain ⟨b3,o4,rfl,-,c5⟩:=RS.row hr (hrow)
  refine yK (c5.sees S2) ?_
  refine go0 13 [.ix b3 o4 len cap k,.f 0 0,.cl 101 #[Vi x] (.bool false)] [(18,Vi (IntKind.i64.wrap ((k:Int) + 1)),Vi ((k:Int) + 1))] ?_ (ho:=(And.intro (by first | omega | (simp; omega)) (And.intro (fun H sH=>hof _) (trivial)))) (hc:=(And.intro (jJ (by omega) (by omega)) (trivial)))
  exact kQ (k + 1) (fun X q=>⟨W1,q _ _ _ _ ⟨rfl,by kernel_rfl⟩,S2,by omega⟩) (by omega)
 ·skip
  refine zK (t:=decide ((k:Int) < (len:Int))) (decide_eq_false (by omega)) ?_
  refine go0 2 [] [] ?_
  refine bQ ?_
  refine go0 8 [] [] ?_
  refine hQ.to [Vi (-1)] (fun H sH=>?_)
  exact rfl
theorem cfI_any (l:List Int) (A:Option Addr) (cap:Nat) (h:Vw) (hr:RS h 1 (.slice A l.length cap) (pW l)) (hl:l.length≤1000000) (hn:∀ x∈l,0≤x) :
  C0 Tryz.prog 100 #[.slice A l.length cap,.func (.func 101) #[] #[]] h (fun r _=>r=.bool false):=by
 have hi:=fun H q=>idxI_any l A cap H q hl hn
 refine xK Tryz.func100 (c:=Tryz.f100.body.getD .skip) (N:=9) ?_
 intro hbx hbad Q hQ
 refine go0 15 [.cl 126 #[.slice A l.length cap,.func (.func 101) #[] #[]] (Vi (-1))] [] ?_ (ho:=(And.intro (fun H sH=>hi _ (hr.sees sH)) (trivial)))
 refine hQ.to [.bool false] (fun H sH=>?_)
 exact rfl
theorem mem_getD {l:List Int} {x:Int} (h:x∈l):∃ i,i < l.length∧x=l.getD i 0:=by
 obtain ⟨i,hi,e⟩:=List.mem_iff_getElem.1 h
 exact ⟨i,hi,by rw [List.getD_eq_getElem?_getD,List.getElem?_eq_getElem hi,e]; rfl⟩
theorem rankOf_any (fs:List Fd) (fv:Value) (h:Vw) (hok:OkFs fs) (hfs:IsFds h fv fs) (ρ:List Int) (lv:Nat→Nat) (hρ:Ranked (jV fs) ρ lv) :
  C0 Tryz.prog 70 #[fv] h (fun r h'=>∃ b,r=.tuple #[.slice (some ⟨b,0,none⟩) fs.length fs.length,.slice none 0 0,.int .i64 0]∧RS h' 1 (.slice (some ⟨b,0,none⟩) fs.length fs.length) (pW ρ)):=by
 have few:=hok.few
 have hck:=fun H q=>check_fields fs fv H hok q
 have hne:=fun H q=>needs_any fs fv H hok q
 have hnl:(jV fs).length=fs.length:=by unfold jV; rw [List.length_map]
 have hb:∀ l∈jV fs,l.length≤1000∧∀ k∈l,k < (jV fs).length:=fun l hl=>by
  obtain ⟨i,hi⟩:=List.mem_iff_getElem?.1 hl
  have hil:=(List.getElem?_eq_some_iff.1 hi).1
  have hg:(jV fs).getD i []=l:=by rw [List.getD_eq_getElem?_getD,hi]; rfl
  refine ⟨?_,fun k hk=>(hρ.low i hil k (by rw [hg]; exact hk)).1⟩
  obtain ⟨f,hf,rfl⟩:=List.mem_map.1 hl
  unfold needE
  split
  ·simp
  ·rename_i g
   obtain ⟨-,w2,-⟩:=(hok.each f hf).wf g
   have:=Nat.le_trans (namesE_len f.src) (refs_le f.src)
   rw [List.length_map]; omega
 have hrk:=fun A cap us H q1 q2=>ranks_any (jV fs) A cap us H q1 q2 (by omega) hb
 rw [ranks_true hρ,hnl] at hrk
 have hρl:ρ.length=fs.length:=hρ.len.trans hnl
 have hnn:∀ x∈ρ,0≤x:=fun x hx=>by
  obtain ⟨i,hi,rfl⟩:=mem_getD hx
  exact rank_nn hρ (by have:=hρ.len; omega)
 have hcf:=fun b H q=>cfI_any ρ (some ⟨b,0,none⟩) fs.length H q (by omega) hnn
 rw [hρl] at hcf
 obtain ⟨-,A,c,rfl,-,-,-,-,-,-⟩:=nK hfs
 generalize jV fs=need at *
 generalize hL:fs.length=len at *
 refine xK Tryz.func70 (c:=Tryz.f70.body.getD .skip) (N:=42) ?_
 intro hbx hbad Q hQ
 refine go0 27 [.cl 97 #[.slice A len c] (Vi 0)] [] ?_ (ho:=(And.intro (fun H sH=>hck _ (hfs.sees sH)) (trivial)))
 refine tK (fun H sH=>hne _ (hfs.sees sH)) ?_; rintro _ W1 S2 ⟨An,cn,us,rfl,hrn,hna⟩
 refine go0 6 [] [] ?_
 refine tK (fun H sH=>hrk _ _ us _ (hrn.sees sH) (hna.sees sH)) ?_; rintro _ W3 S4 ⟨b,rfl,hro⟩
 refine go0 7 [] [] ?_
 refine go0 15 [.cl 100 #[Vs b len len,.func (.func 101) #[] #[]] (.bool false)] [] ?_ (ho:=(And.intro (fun H sH=>hcf b _ (hro.sees sH)) (trivial)))
 refine hQ.to [Vs b len len,Vz,Vi 0] (fun H sH=>?_)
 exact ⟨b,rfl,(hro.sees sH)⟩
end Go.Proofs.YthplkompdehjlaaGreatDoor
namespace Go.Proofs.YthplkompdehjlaaGreatDoor
open Go.RowKit
set_option linter.unusedVariables false
structure OkFm (f:Fm) (ρ:List Int) (lv:Nat→Nat):Prop where
 fields:OkFs f.fields
 pages:OkGs f.fields f.pages
 rank:Ranked (jV f.fields) ρ lv
theorem shCheck_any (f:Fm) (ρ:List Int) (lv:Nat→Nat) (A:Option Addr) (n c:Nat) (B:Option Addr) (m d:Nat) (h:Vw) (hok:OkFm f ρ lv) (hf:IsForm h (.slice A n c) (.slice B m d) f) (hn:n=f.fields.length) :
  C0 Tryz.prog 36 #[.agg #[.slice A n c,.slice B m d]] h (fun r _=>r=.int .i64 0):=by
 have hR:=fun H q=>rankOf_any f.fields (.slice A n c) H hok.fields q ρ lv hok.rank
 have few:=hok.fields.few
 have hP:=fun H q1 q2=>pgCheck_any f.fields (.slice A n c) f.pages (.slice B m d) H hok.pages q1 q2 (by omega)
 rw [← hn] at hR
 refine xK Tryz.func36 (c:=Tryz.f36.body.getD .skip) (N:=21) ?_
 intro hbx hbad Q hQ
 refine go1 11 [.own,.b 0 0] [] ?_
 intro b1
 refine tK (fun H sH=>hR _ ((hf.sees sH)).fields) ?_; rintro _ W2 S3 ⟨b,rfl,hro⟩
 refine go0 24 [.b 0 1,.b 0 0] [] ?_
 refine go0 5 [.cl 71 #[.slice B m d,.slice A n c] (Vi 0)] [] ?_ (ho:=(And.intro (fun H sH=>hP _ ((hf.sees (S3.trans sH))).pages ((hf.sees (S3.trans sH))).fields) (trivial)))
 refine hQ.to [Vi 0] (fun H sH=>?_)
 exact rfl
theorem zE_small:(szE zE).1 < 1000000:=by
 rw [lX]
 show 1 + (szL ([]:List Ex)).1 < 1000000
 rw [szL]; decide
theorem OkFm.small {f:Fm} {ρ:List Int} {lv:Nat→Nat} (h:OkFm f ρ lv):(∀ g∈f.fields,(szE g.src).1 < 1000000)∧∀ g∈f.pages,(szE g.skip).1 < 1000000:=by
 refine ⟨fun g hg=>?_,fun g hg=>?_⟩
 ·have hF:=h.fields.each g hg
  by_cases k:g.kind=1
  ·rw [hF.inp k]; exact zE_small
  ·have:=(hF.wf k).2.1; omega
 ·rcases h.pages.skip g hg with e | e
  ·rw [e]; exact zE_small
  ·exact e.2.2.1
end Go.Proofs.YthplkompdehjlaaGreatDoor
namespace Go.Proofs.YthplkompdehjlaaGreatDoor
open Go.RowKit
set_option linter.unusedVariables false
structure FmW (fm:Fm):Prop where
 fd:∀ f∈fm.fields,f.kind≠1→(szE f.src).2≤12
 pg:∀ p∈fm.pages,PgW p
theorem join_prn {sep:List UInt8} (hs:Prn sep):∀ l:List (List UInt8),(∀ x∈l,Prn x)→Prn (Lib.join l sep)
 | [],_=>Prn.nil
 | [x],h=>by rw [Lib.join_one]; exact h x (by simp)
 | x :: y :: r,h=>by
  rw [wQ]
  exact (h x (by simp)).app (hs.app (join_prn hs (y :: r) fun z hz=>h z (List.mem_cons_of_mem _ hz)))
theorem pgL_prn {p:Pg} (h:PgW p):Prn (pgL p):=by
 have hj:Prn (nmJ p):=join_prn (Prn.cons (by decide) (Prn.cons (by decide) Prn.nil)) _ fun x hx=>by
  obtain ⟨s,hs,rfl⟩:=List.mem_map.1 hx
  exact name_prn (h.fs s hs)
 have hb:Prn (pgB p):=by
  unfold pgB
  split
  ·exact hj
  ·rename_i k
   rcases h.sk with e | ⟨-,e,-,-⟩
   ·rw [e] at k; exact absurd rfl k
   ·exact hj.app ((Prn.cons (by decide) (Prn.cons (by decide) Prn.nil)).app (prt_prn _ _ _ (Nat.le_refl _) e))
 exact (name_prn h.nm).app ((Prn.cons (by decide) (Prn.cons (by decide) Prn.nil)).app hb)
theorem pgW_prn:Prn pgW:=fun c hc=>by revert c; decide
theorem lnF_len (fm:Fm):(lnF fm).length=fm.fields.length + fm.pages.length:=by unfold lnF; rw [List.length_append,List.length_map,List.length_map]
theorem lnF_fd {fm:Fm} {k:Nat} {f:Fd} (h:fm.fields[k]?=some f):(lnF fm)[k]?=some (fdL f):=by
 obtain ⟨hk,-⟩:=List.getElem?_eq_some_iff.1 h
 unfold lnF
 rw [List.getElem?_append_left (by rw [List.length_map]; exact hk),List.getElem?_map,h]; rfl
theorem lnF_pg {fm:Fm} {k:Nat} {p:Pg} (hk:fm.fields.length≤k) (h:fm.pages[k - fm.fields.length]?=some p):(lnF fm)[k]?=some (pgW++pgL p):=by
 unfold lnF
 rw [List.getElem?_append_right (by rw [List.length_map]; exact hk),List.length_map,List.getElem?_map,h]; rfl
theorem lnF_each {fm:Fm} {ρ:List Int} {lv:Nat→Nat} (hok:OkFm fm ρ lv) (hw:FmW fm):∀ x∈lnF fm,x.length≤10005∧(10:UInt8) ∉ x:=fun x hx=>by
 rcases List.mem_append.1 hx with q | q
 ·obtain ⟨f,hf,rfl⟩:=List.mem_map.1 q
  have hF:=hok.fields.each f hf
  have h1:=fdL_len hF.words fun g=>(hF.wf g).2.1
  exact ⟨by omega,(fdL_prn hF.words).no10⟩
 ·obtain ⟨p,hp,rfl⟩:=List.mem_map.1 q
  have h1:=pgL_len (hw.pg p hp)
  refine ⟨?_,(pgW_prn.app (pgL_prn (hw.pg p hp))).no10⟩
  rw [List.length_append]
  have:pgW.length=5:=rfl
  omega
theorem c_lines (fm:Fm) (ρ:List Int) (lv:Nat→Nat) (hok:OkFm fm ρ lv) (hw:FmW fm) (n1:1≤fm.fields.length) (H:Vw) (q:Lk H) :
  C0 Tryz.prog 19 #[.string (mkB (Lib.join (lnF fm) [10])),.string ⟨#[10]⟩] H (fun r h'=>∃ b,r=.slice (some ⟨b,0,none⟩) (fm.fields.length + fm.pages.length) (fm.fields.length + fm.pages.length)∧RS h' 1 (.slice (some ⟨b,0,none⟩) (fm.fields.length + fm.pages.length) (fm.fields.length + fm.pages.length)) ((lnF fm).map fun x=>[.string (mkB x)])):=by
 have he:=lnF_each hok hw
 have hl:=lnF_len fm
 have few:=hok.fields.few
 have fewp:=hok.pages.few
 have hj:=join_len (M:=10005) (lnF fm) fun x hx=>(he x hx).1
 have hm:(lnF fm).length * (10005 + 1)≤20 * (10005 + 1):=Nat.mul_le_mul_right _ (by omega)
 refine (c_splitC (mkB (Lib.join (lnF fm) [10])) ⟨#[10]⟩ _ H q (by rw [cV]; omega) (by decide) (split_join rfl _ (fun e=>by rw [e] at hl; simp at hl; omega) fun x hx=>(he x hx).2)).mono fun v h' _ k=>?_
 obtain ⟨b,e,c⟩:=k
 have ef:((lnF fm).map fun x=>Value.string (mkB x))=(((lnF fm).map fun x=>[Value.string (mkB x)]):List (List Value)).flatten:=by
  rw [← List.flatMap_def,← List.map_eq_flatMap]
 rw [ef] at c
 have hr:=rW (k:=1) _ (fun r hr=>by obtain ⟨s,-,rfl⟩:=List.mem_map.1 hr; rfl) (by rw [List.length_map]; unfold maxLen; omega) c
 rw [List.length_map,hl] at hr
 rw [hl] at e
 exact ⟨b,e,hr⟩
set_option maxHeartbeats 4000000 in
theorem read_any (fm:Fm) (ρ:List Int) (lv:Nat→Nat) (h:Vw) (lk:Lk h) (hok:OkFm fm ρ lv) (hw:FmW fm) (n1:1≤fm.fields.length) :
  C0 Tryz.prog 14 #[.string (mkB (Lib.join (lnF fm) [10]))] h (fun r h'=>(((∃ f∈fm.fields,fdLong f)∨∃ p∈fm.pages,pgLong p)∧∃ n,r=.tuple #[.agg #[.slice none 0 0,.slice none 0 0],.int .i64 n,.int .i64 1])∨((∀ f∈fm.fields,¬ fdLong f)∧(∀ p∈fm.pages,¬ pgLong p)∧∃ u v,r=.tuple #[.agg #[.slice (sA u) (sN u) (sC u),.slice (sA v) (sN v) (sC v)],.int .i64 0,.int .i64 0]∧IsForm h' (.slice (sA u) (sN u) (sC u)) (.slice (sA v) (sN v) (sC v)) fm)):=by
 have hS:=fun H q=>c_lines fm ρ lv hok hw n1 H q
 have hfd:=fun k f=>lnF_fd (fm:=fm) (k:=k) (f:=f)
 have hpg:=fun k p=>lnF_pg (fm:=fm) (k:=k) (p:=p)
 have hcf:=fun f (q:f∈fm.fields) H=>cutp_f (hok.fields.each f q).words H
 have hcp:=fun (p:Pg) H=>cutp_p (pgL p) H
 have hFn:=fun f (q:f∈fm.fields) H q1 q2=>readField_no fm.fields f H q1 (hok.fields.each f q) (hw.fd f q) q2
 have hFo:=fun f (q:f∈fm.fields) H q1 q2=>readField_ok fm.fields f H q1 (hok.fields.each f q) (hw.fd f q) q2
 have hPn:=fun p (q:p∈fm.pages) H q1 q2=>readPage_no p H q1 (hw.pg p q) q2
 have hPo:=fun p (q:p∈fm.pages) H q1 q2=>readPage_ok p H q1 (hw.pg p q) q2
 have hCk:=fun A n c B m d H q1 q2=>shCheck_any fm ρ lv A n c B m d H hok q1 q2
 have few:=hok.fields.few
 have fewp:=hok.pages.few
 have onep:=hok.pages.one
 generalize mkB (Lib.join (lnF fm) [10])=sl at *
 obtain ⟨nf,hnf⟩:∃ n,fm.fields.length=n:=⟨_,rfl⟩
 obtain ⟨np,hnp⟩:∃ n,fm.pages.length=n:=⟨_,rfl⟩
 rw [hnf,hnp] at hS
 rw [hnf] at few hpg n1 hCk
 rw [hnp] at fewp onep
 obtain ⟨nN,hNN⟩:∃ n,nf + np=n:=⟨_,rfl⟩
 rw [hNN] at hS
 obtain ⟨ls,hls⟩:∃ ls,lnF fm=ls:=⟨_,rfl⟩
 rw [hls] at hS
 simp only [hls] at hfd hpg
 refine xK Tryz.func14 (c:=Tryz.f14.body.getD .skip) (N:=85) ?_
 intro hbx hbad Q hQ
 refine go1 10 [.own] [] ?_
 intro b1
 refine tK (fun H sH=>hS _ (lk.sees sH)) ?_; rintro _ W2 S3 ⟨b,rfl,hr⟩
 refine go0 11 [] [] ?_
 refine zK (t:=decide ((nN:Int) > 20)) (decide_eq_false (by omega)) ?_
 refine go1 16 [.own] [] ?_
 intro bo
 refine eQ 46 9 ?_
 refine eQ 80 8 ?_
 refine cQ [0,1,0,1,1,1,1] [.block 0,.seq [1,1,1,1,1]] (fun (k:Nat) X=>∃ (W4:Vw) (pl:List Pg) (vf:Value) (vp:Value) (vs:List Value) (us:List Value) (ws:List Value),X W4 [(2,Vp b1),(6,Vp bo),(22,Vs b nN nN),(23,Vi (nN:Int)),(24,Vi (k:Int))] [.row vp 80 8 (xV pl us ws),.row vf 46 9 (kK (fm.fields.take k) vs),.box bo [vf,vp],.box b1 [Vz,Vz]] []∧Sees W2 W4∧(k≤nN)∧(pl=fm.pages.take (k - nf))∧(AllSrc W4 (fm.fields.take k) vs)∧(AllStr W4 (pl.map (·.fields)) us)∧(AllArgs W4 (pl.map (·.skip)) ws)∧(∀ f∈fm.fields.take k,¬ fdLong f)∧(∀ p∈pl,¬ pgLong p)) (fun k=>nN - k) (0) (fun X q=>⟨W2,[],(Vz),(Vz),[],[],[],q _ _ _ _ ⟨rfl,by kernel_rfl⟩,Sees.refl _,Nat.zero_le _,by rw [Nat.zero_sub]; rfl,by unfold AllSrc AllArgs; rfl,rfl,by unfold AllArgs; rfl,fun f q=>by simp at q,fun p q=>by cases q⟩) ?_
 rintro k a w ⟨W4,pl,vf,vp,vs,us,ws,hJ,S5,hk,hpe,hvs,hus,hws,hlf,hlp⟩; refine fQ hJ ?_; clear hJ a w
 refine go0 6 [] [] ?_
 have hvl:=hvs.len
 have hul:=hus.len
 have hwl:=hws.len
 rw [List.length_map] at hul hwl
 have hfl:=mK hvl
 have hpl:=yV hul hwl
 have hpk:=congrArg List.length hpe
 rw [List.length_take,hnp] at hpk
 rw [List.length_take] at hfl
 rw [hnf] at hfl
 rcases (by omega:k < nf∨(nf≤k∧k < nN)∨k=nN) with hlt | ⟨hge,hlt⟩ | hke
 ·obtain ⟨f,hfk⟩:∃ f,fm.fields[k]?=some f:=⟨_,List.getElem?_eq_getElem (by omega)⟩
  have hfm:=List.mem_of_getElem? hfk
  have hrow:(ls.map fun x=>[Value.string (mkB x)])[k]?=some [.string (mkB (fdL f))]:=by rw [List.getElem?_map,hfd k f hfk]; rfl
  have hsn:=oX _ k f hfk
  have e0:k - nf=0:=by omega
  have e1:k + 1 - nf=k - nf:=by omega
  have hcf:=fun H=>hcf f hfm H
  have hFn:=fun H q=>hFn f hfm H q
  have hFo:=fun H q=>hFo f hfm H q
  generalize mkB (fdL f)=sf at *
  refine g_form 0 (v:=vp) (e:=80) (kk:=8) (l:=xV pl us ws) ?_; intro Ap cp hE_vp hc_vp hm_vp
  rw [show (xV pl us ws).length=0 from by first | omega | (simp; done) | (simp; omega)] at hE_vp hc_vp
  rw [hE_vp]
  refine lQ (t:=decide ((k:Int) < (nN:Int))) (decide_eq_true (by omega)) ?_
  refine go0 7 [] [] ?_
  have c6:=RS.cell hr (hrow)
  refine yK (c6.sees S5) ?_
  refine go0 29 [.ix b 0 nN nN k,.f 0 0,.cl 33 #[.string sf,.string ⟨#[112,97,103,101,32]⟩] (.tuple #[.string sf,.bool false])] [] ?_ (ho:=(And.intro (by first | omega | (simp; omega)) (And.intro (fun H sH=>hcf _) (trivial))))
  by_cases hl:fdLong f
  ·skip
   refine go1 48 [.cl 35 #[.string sf] (.tuple #[.agg #[Ve,Vi 0,Vi 0,Vi 0,Vi 0,Vi 0,Ve,Ve,Vz],Vi 1]),.own,.b 0 0,.b 4 0] [(69,Vi (IntKind.i64.wrap ((k:Int) + 1)),Vi ((k:Int) + 1))] ?_ (ho:=(And.intro (fun H sH=>hFn _ (lk.sees (S3.trans (S5.trans sH))) hl) (trivial))) (hc:=(And.intro (jJ (by omega) (by omega)) (trivial)))
   intro b7
   refine bQ ?_
   refine go0 2 [] [] ?_
   refine hQ.to [.agg #[Vz,Vz],Vi ((k:Int) + 1),Vi 1] (fun H sH=>?_) (ix:=[4])
   exact .inl ⟨.inl ⟨f,hfm,hl⟩,_,rfl⟩
  ·skip
   refine tK (fun H sH=>hFo _ (lk.sees (S3.trans (S5.trans sH))) hl) ?_; rintro _ W8 S9 ⟨u,rfl,hu⟩
   refine gov2 39 [.own,.b 0 0,.b 3 1,.b 3 0,.b 0 0,.fix] [] ?_
   intro b10 b11 W12 S13
   refine goa0 10 [.ap 2 0 (kK (fm.fields.take k) vs) [[.string f.name,Vi f.kind,Vi f.ty,Vi f.src.op,Vi f.src.k,Vi f.src.n,.string f.src.s,.string f.src.nm,.slice (sA u) (sN u) (sC u)]],.b 3 0] [(77,Vi (IntKind.i64.wrap ((k:Int) + 1)),Vi ((k:Int) + 1))] ?_ (ho:=(And.intro (by rw [hfl]; simp; omega) (trivial))) (hc:=(And.intro (jJ (by omega) (by omega)) (trivial)))
   intro nf2 W14 S15
   refine aQ [(2,Vp b1),(6,Vp bo),(22,Vs b nN nN),(23,Vi (nN:Int)),(24,Vi ((k:Int) + 1))] [.row (.slice Ap 0 cp) 80 8 (xV pl us ws),.row (.slice (sA nf2) (sN nf2) (sC nf2)) 46 9 ((kK (fm.fields.take k) vs)++[[.string f.name,Vi f.kind,Vi f.ty,Vi f.src.op,Vi f.src.k,Vi f.src.n,.string f.src.s,.string f.src.nm,.slice (sA u) (sN u) (sC u)]]),.box bo [.slice (sA nf2) (sN nf2) (sC nf2),.slice Ap 0 cp],.box b1 [Vz,Vz]] [] ?_
   exact kQ (k + 1) (fun X q=>⟨W14,pl,.slice (sA nf2) (sN nf2) (sC nf2),.slice Ap 0 cp,vs++[.slice (sA u) (sN u) (sC u)],us,ws,q _ _ _ _ (wW (by rw [hsn,fdRows_snoc hvl]; try rfl)),(S5.trans (S9.trans (S13.trans S15))),by omega,by rw [e1]; exact hpe,by rw [hsn]; exact AllSrc.snoc (hvs.sees (S9.trans (S13.trans S15))) (hu.sees (S13.trans S15)),(hus.sees (S9.trans (S13.trans S15))),(hws.sees (S9.trans (S13.trans S15))),(by rw [hsn]; exact fun g q=>(List.mem_append.1 q).elim (hlf g) (fun e=>by rw [List.mem_singleton.1 e]; exact hl)),hlp⟩) (by omega)
 ·skip
  obtain ⟨p,hpg0⟩:∃ p,fm.pages[k - nf]?=some p:=⟨_,List.getElem?_eq_getElem (by omega)⟩
  have hpm:=List.mem_of_getElem? hpg0
  have hrow:(ls.map fun x=>[Value.string (mkB x)])[k]?=some [.string (mkB (pgW++pgL p))]:=by rw [List.getElem?_map,hpg k p hge hpg0]; rfl
  have hsn:=oX _ (k - nf) p hpg0
  have e1:k + 1 - nf=k - nf + 1:=by omega
  have e2:fm.fields.take (k + 1)=fm.fields.take k:=by rw [List.take_of_length_le (by omega),List.take_of_length_le (by omega)]
  have hcp:=fun H=>hcp p H
  have hPn:=fun H q=>hPn p hpm H q
  have hPo:=fun H q=>hPo p hpm H q
  generalize mkB (pgW++pgL p)=sp at *
  generalize mkB (pgL p)=sq at *
  refine lQ (t:=decide ((k:Int) < (nN:Int))) (decide_eq_true (by omega)) ?_
  refine go0 7 [] [] ?_
  have c16:=RS.cell hr (hrow)
  refine yK (c16.sees S5) ?_
  refine go0 27 [.ix b 0 nN nN k,.f 0 0,.cl 33 #[.string sp,.string ⟨#[112,97,103,101,32]⟩] (.tuple #[.string sq,.bool true])] [] ?_ (ho:=(And.intro (by first | omega | (simp; omega)) (And.intro (fun H sH=>hcp _) (trivial))))
  by_cases hl:pgLong p
  ·skip
   refine go1 33 [.cl 34 #[.string sq] (.tuple #[.agg #[Ve,Vz,Vi 0,Vi 0,Vi 0,Ve,Ve,Vz],Vi 1]),.own,.b 0 0,.b 4 0] [(44,Vi (IntKind.i64.wrap ((k:Int) + 1)),Vi ((k:Int) + 1))] ?_ (ho:=(And.intro (fun H sH=>hPn _ (lk.sees (S3.trans (S5.trans sH))) hl) (trivial))) (hc:=(And.intro (jJ (by omega) (by omega)) (trivial)))
   intro b17
   refine bQ ?_
   refine go0 2 [] [] ?_
   refine hQ.to [.agg #[Vz,Vz],Vi ((k:Int) + 1),Vi 1] (fun H sH=>?_) (ix:=[4])
   exact .inl ⟨.inr ⟨p,hpm,hl⟩,_,rfl⟩
  ·skip
   refine tK (fun H sH=>hPo _ (lk.sees (S3.trans (S5.trans sH))) hl) ?_; rintro _ W18 S19 ⟨u,v,rfl,hu,hv⟩
   refine gov2 24 [.own,.b 0 0,.b 3 1,.b 0 0,.fix] [] ?_
   intro b20 b21 W22 S23
   refine goa0 13 [.ap 1 0 (xV pl us ws) [[.string p.name,.slice (sA u) (sN u) (sC u),Vi p.skip.op,Vi p.skip.k,Vi p.skip.n,.string p.skip.s,.string p.skip.nm,.slice (sA v) (sN v) (sC v)]],.b 3 1] [(77,Vi (IntKind.i64.wrap ((k:Int) + 1)),Vi ((k:Int) + 1))] ?_ (ho:=(And.intro (by rw [hpl]; simp; omega) (trivial))) (hc:=(And.intro (jJ (by omega) (by omega)) (trivial)))
   intro np2 W24 S25
   refine aQ [(2,Vp b1),(6,Vp bo),(22,Vs b nN nN),(23,Vi (nN:Int)),(24,Vi ((k:Int) + 1))] [.row (.slice (sA np2) (sN np2) (sC np2)) 80 8 ((xV pl us ws)++[[.string p.name,.slice (sA u) (sN u) (sC u),Vi p.skip.op,Vi p.skip.k,Vi p.skip.n,.string p.skip.s,.string p.skip.nm,.slice (sA v) (sN v) (sC v)]]),.row vf 46 9 (kK (fm.fields.take k) vs),.box bo [vf,.slice (sA np2) (sN np2) (sC np2)],.box b1 [Vz,Vz]] [] ?_
   exact kQ (k + 1) (fun X q=>⟨W24,pl++[p],vf,.slice (sA np2) (sN np2) (sC np2),vs,us++[.slice (sA u) (sN u) (sC u)],ws++[.slice (sA v) (sN v) (sC v)],q _ _ _ _ (wW (by rw [pgRows_snoc hul hwl,e2]; try rfl)),(S5.trans (S19.trans (S23.trans S25))),by omega,by rw [e1,hsn,hpe],by rw [e2]; exact (hvs.sees (S19.trans (S23.trans S25))),by rw [List.map_append]; exact AllStr.snoc (hu.sees (S23.trans S25)) (hus.sees (S19.trans (S23.trans S25))),by rw [List.map_append]; exact AllArgs.snoc (hv.sees (S23.trans S25)) (hws.sees (S19.trans (S23.trans S25))),by rw [e2]; exact hlf,(by exact fun g q=>(List.mem_append.1 q).elim (hlp g) (fun e=>by rw [List.mem_singleton.1 e]; exact hl))⟩) (by omega)
 ·skip
  have et:fm.fields.take k=fm.fields:=List.take_of_length_le (by omega)
  have ep:fm.pages.take (k - nf)=fm.pages:=List.take_of_length_le (by omega)
  rw [et] at hvs hlf hfl ⊢
  rw [ep] at hpe
  subst hpe
  refine g_form 1 (v:=vf) (e:=46) (kk:=9) (l:=kK fm.fields vs) ?_; intro Af cf hE_vf hc_vf hm_vf
  rw [show (kK fm.fields vs).length=nf from by first | omega | (simp; done) | (simp; omega)] at hE_vf hc_vf
  rw [hE_vf]
  refine g_form 0 (v:=vp) (e:=80) (kk:=8) (l:=xV fm.pages us ws) ?_; intro Ap cp hE_vp hc_vp hm_vp
  rw [show (xV fm.pages us ws).length=np from by first | omega | (simp; done) | (simp; omega)] at hE_vp hc_vp
  rw [hE_vp]
  refine zK (t:=decide ((k:Int) < (nN:Int))) (decide_eq_false (by omega)) ?_
  refine go0 2 [] [] ?_
  refine bQ ?_
  refine go0 6 [.b 2 0] [] ?_
  refine g_freeze 0 (v:=.slice Ap np cp) (e:=80) (kk:=8) (l:=xV fm.pages us ws) ?_; intro W26 S27 fP
  refine g_freeze 0 (v:=.slice Af nf cf) (e:=46) (kk:=9) (l:=kK fm.fields vs) ?_; intro W28 S29 fF
  refine go0 22 [.cl 36 #[.agg #[.slice Af nf cf,.slice Ap np cp]] (Vi 0),.b 0 0,.b 1 0] [] ?_ (ho:=(And.intro (fun H sH=>hCk _ _ _ _ _ _ _ ⟨⟨vs,(fF.sees sH),(hvs.sees (S27.trans (S29.trans sH)))⟩,us,ws,(fP.sees (S29.trans sH)),(hus.sees (S27.trans (S29.trans sH))),(hws.sees (S27.trans (S29.trans sH)))⟩ rfl) (trivial)))
  refine hQ.to [.agg #[.slice Af nf cf,.slice Ap np cp],Vi 0,Vi 0] (fun H sH=>?_) (ix:=[1])
  exact .inr ⟨hlf,hlp,.slice Af nf cf,.slice Ap np cp,rfl,⟨vs,(fF.sees sH),(hvs.sees (S27.trans (S29.trans sH)))⟩,us,ws,(fP.sees (S29.trans sH)),(hus.sees (S27.trans (S29.trans sH))),(hws.sees (S27.trans (S29.trans sH)))⟩
end Go.Proofs.YthplkompdehjlaaGreatDoor
namespace Go.Proofs.YthplkompdehjlaaGreatDoor
open Go.RowKit
set_option linter.unusedVariables false
theorem run_catZ {t:TypeId} {a b c:ByteArray} {P:Program} {w:World} (h:a.size + b.size≤100000) (e:a.data.toList++b.data.toList=c.data.toList):(binOp .add t (.string a) (.string b)).run P w=.ok (.string c) w:=by
 have:=run_catb (t:=t) (P:=P) (w:=w) h e
 rw [this]
theorem c_join (xs:List ByteArray) (sep:ByteArray) (v:Value) (h:Vw) (hr:RS h 1 v (kX xs)) (hl:xs.length≤1000000) (hlen:(Lib.join (xs.map fun s=>s.data.toList) sep.data.toList).length≤1000000) :
  C0 Tryz.prog 21 #[v,.string sep] h (fun r _=>r=.string (mkB (Lib.join (xs.map fun s=>s.data.toList) sep.data.toList))):=by
 rcases hr with ⟨A,cap,rfl,-,-,hx⟩ | ⟨b,off,cap,rfl,h1,h2,hb,hn,hc⟩
 ·obtain rfl:xs=[]:=List.map_eq_nil_iff.1 hx
  exact C0.at_ ((Tryz.strings_Join_none A cap sep h.w).mono fun e w' ⟨he,hw⟩=>⟨he,by rw [hw]; exact Below.refl _ _⟩)
 ·rw [List.length_map] at *
  refine C0.at_ ((Tryz.strings_Join b off cap xs sep h.w (fun j x hx=>?_) hb (by omega) h1 (by omega)).mono fun e w' ⟨he,hw⟩=>⟨he,hw⟩)
  have:=hc j [.string x] (by rw [List.getElem?_map,hx]; rfl) 0 (.string x) rfl
  rwa [Nat.mul_one] at this
set_option maxHeartbeats 1000000 in
theorem pageLine_any (p:Pg) (A:Option Addr) (n c:Nat) (B:Option Addr) (m d:Nat) (h:Vw) (lk:Lk h) (hw:PgW p) (hr:RS h 1 (.slice A n c) (kX p.fields)) (ha:IsArgs h p.skip (.slice B m d)) :
  C0 Tryz.prog 41 #[.agg #[.string p.name,.slice A n c,.int .i64 p.skip.op,.int .i64 p.skip.k,.int .i64 p.skip.n,.string p.skip.s,.string p.skip.nm,.slice B m d]] h (fun r _=>r=.string (mkB (pgW++pgL p))):=by
 have hL:=pgL_len hw
 have hn10:=hw.nm.2.1
 have hf:=hw.few
 have hJ0:∀ H,RS H 1 (.slice A n c) (kX p.fields)→C0 Tryz.prog 21 #[.slice A n c,.string ⟨#[44,32]⟩] H (fun r _=>r=.string (mkB (nmJ p))):=fun H q=>c_join p.fields ⟨#[44,32]⟩ _ H q (by omega) (by have:=hL.2.2; unfold nmJ at this; show (Lib.join _ [44,32]).length≤_; omega)
 obtain ⟨J,j1⟩:∃ J,mkB (nmJ p)=J:=⟨_,rfl⟩
 have j2:J.data.toList=nmJ p:=by rw [← j1,bV]
 have j3:J.size≤1200:=by rw [← j1,cV]; exact hL.2.2
 rw [j1] at hJ0
 obtain ⟨S8,a8⟩:∃ S8:ByteArray,S8.data.toList=[112,97,103,101,32]++p.name.data.toList:=⟨mkB _,bV _⟩
 obtain ⟨S9,a9⟩:∃ S9:ByteArray,S9.data.toList=S8.data.toList++[58,32]:=⟨mkB _,bV _⟩
 obtain ⟨S13,a13⟩:∃ S13:ByteArray,S13.data.toList=S9.data.toList++J.data.toList:=⟨mkB _,bV _⟩
 have sz:∀ S:ByteArray,S.size=S.data.toList.length:=fun S=>by show S.data.size=_; simp
 have z0:p.name.size≤10:=by rw [sz]; exact hn10
 have z8:S8.size=5 + p.name.size:=by rw [sz,sz p.name,a8,List.length_append]; rfl
 have z9:S9.size=S8.size + 2:=by rw [sz,sz S8,a9,List.length_append]; rfl
 have z13:S13.size=S9.size + J.size:=by rw [sz,sz S9,sz J,a13,List.length_append]
 have e13:S13.data.toList=pgW++(p.name.data.toList++([58,32]++nmJ p)):=by rw [a13,a9,a8,j2]; show _=[112,97,103,101,32]++_; simp
 rcases hw.sk with hz | ⟨g,wf,s1,s2⟩
 ·have hpg:pgW++pgL p=S13.data.toList:=by rw [e13]; unfold pgL pgB; rw [if_pos (by rw [hz]; rfl)]
  obtain ⟨A2,c2,e2⟩:=args_zero (by rw [hz]; rfl) ha
  simp only [Value.slice.injEq] at e2
  obtain ⟨rfl,rfl,rfl⟩:=e2
  have hNv:=fun H=>never_yes p.name A n c B d H
  have e1:p.skip.op=0:=by rw [hz]; rfl
  have e2:p.skip.k=0:=by rw [hz]; rfl
  have e3:p.skip.n=0:=by rw [hz]; rfl
  have e4:p.skip.s=⟨#[]⟩:=by rw [hz]; rfl
  have e5:p.skip.nm=⟨#[]⟩:=by rw [hz]; rfl
  rw [e1,e2,e3,e4,e5]
  refine xK Tryz.func41 (c:=Tryz.f41.body.getD .skip) (N:=27) ?_
  intro hbx hbad Q hQ
  refine go1 7 [.own] [] ?_
  intro b1
  refine iQ 9 0 [.pu,.ld 0 0,.v (fun gh=>.string S8),.v (fun gh=>.string S9),.pu,.ld 0 1,.v (fun gh=>.string J),.v (fun gh=>.string S13),.pu] [] (trivial) ?_ ?_
  ·intro R hT hA hmono
   refine And.intro (t_p hT hA (fun gh=>.string S8) (fun gh w=>sW (op:=.add) (t:=9) (x:=(.const (.string ⟨#[112,97,103,101,32]⟩))) (y:=(.tmp 7)) (yt:=9) (va:=.string ⟨#[112,97,103,101,32]⟩) (vb:=.string p.name) (by kernel_rfl) (by kernel_rfl) (by kernel_rfl) (by kernel_rfl) (run_catZ (by show 5 + p.name.size≤_; omega) a8.symm))) ?_
   refine And.intro (t_p hT hA (fun gh=>.string S9) (fun gh w=>sW (op:=.add) (t:=9) (x:=(.tmp 8)) (y:=(.const (.string ⟨#[58,32]⟩))) (yt:=9) (va:=.string S8) (vb:=.string ⟨#[58,32]⟩) (by kernel_rfl) (by kernel_rfl) (by kernel_rfl) (by kernel_rfl) (run_catZ (by show S8.size + 2≤_; omega) a9.symm))) ?_
   refine And.intro (t_v hT hA hmono (k:=21) (args:=(fun gh=>#[.slice A n c,.string ⟨#[44,32]⟩])) (f:=fun gh=>.string J) (fun gh H sH fH lent=>hJ0 _ (hr.sees sH))) ?_
   refine And.intro (t_p hT hA (fun gh=>.string S13) (fun gh w=>sW (op:=.add) (t:=9) (x:=(.tmp 9)) (y:=(.tmp 12)) (yt:=9) (va:=.string S9) (vb:=.string J) (by kernel_rfl) (by kernel_rfl) (by kernel_rfl) (by kernel_rfl) (run_catZ (by omega) a13.symm))) ?_
   trivial
  rintro W2 S3 -
  refine go0 17 [.b 0 0,.cl 72 #[.agg #[.string p.name,.slice A n c,Vi 0,Vi 0,Vi 0,Ve,Ve,.slice B 0 d]] (.bool true)] [] ?_ (ho:=(And.intro (fun H sH=>hNv _) (trivial)))
  refine hQ.to [.string S13] (fun H sH=>?_)
  exact congrArg Value.string ((mkB_eq rfl).trans (congrArg mkB hpg.symm))
 ·have hpl:=gW _ p.skip 1 (Nat.le_refl _) wf
  have hPr:=fun H q1 q2=>print_any p.skip (.slice B m d) H q1 wf q2 s1 s2
  have hNv:=fun H=>never_no p.name p.skip A n c B m d H g
  have hpg:pgW++pgL p=S13.data.toList++([59,32]++prt p.skip 1):=by rw [e13]; unfold pgL pgB; rw [if_neg g]; simp
  obtain ⟨T,t1⟩:∃ T,(⟨(prt p.skip 1).toArray⟩:ByteArray)=T:=⟨_,rfl⟩
  have t2:T.data.toList=prt p.skip 1:=by rw [← t1]
  rw [t1] at hPr
  have t3:T.size≤6000:=by rw [sz,t2]; omega
  obtain ⟨S24,a24⟩:∃ S24:ByteArray,S24.data.toList=S13.data.toList++[59,32]:=⟨mkB _,bV _⟩
  have z24:S24.size=S13.size + 2:=by rw [sz,sz S13,a24,List.length_append]; rfl
  have a26:S24.data.toList++T.data.toList=(mkB (pgW++pgL p)).data.toList:=by rw [bV,hpg,a24,t2]; simp
  generalize mkB (pgW++pgL p)=S26 at *
  refine xK Tryz.func41 (c:=Tryz.f41.body.getD .skip) (N:=27) ?_
  intro hbx hbad Q hQ
  refine go1 7 [.own] [] ?_
  intro b1
  refine iQ 9 0 [.pu,.ld 0 0,.v (fun gh=>.string S8),.v (fun gh=>.string S9),.pu,.ld 0 1,.v (fun gh=>.string J),.v (fun gh=>.string S13),.pu] [] (trivial) ?_ ?_
  ·intro R hT hA hmono
   refine And.intro (t_p hT hA (fun gh=>.string S8) (fun gh w=>sW (op:=.add) (t:=9) (x:=(.const (.string ⟨#[112,97,103,101,32]⟩))) (y:=(.tmp 7)) (yt:=9) (va:=.string ⟨#[112,97,103,101,32]⟩) (vb:=.string p.name) (by kernel_rfl) (by kernel_rfl) (by kernel_rfl) (by kernel_rfl) (run_catZ (by show 5 + p.name.size≤_; omega) a8.symm))) ?_
   refine And.intro (t_p hT hA (fun gh=>.string S9) (fun gh w=>sW (op:=.add) (t:=9) (x:=(.tmp 8)) (y:=(.const (.string ⟨#[58,32]⟩))) (yt:=9) (va:=.string S8) (vb:=.string ⟨#[58,32]⟩) (by kernel_rfl) (by kernel_rfl) (by kernel_rfl) (by kernel_rfl) (run_catZ (by show S8.size + 2≤_; omega) a9.symm))) ?_
   refine And.intro (t_v hT hA hmono (k:=21) (args:=(fun gh=>#[.slice A n c,.string ⟨#[44,32]⟩])) (f:=fun gh=>.string J) (fun gh H sH fH lent=>hJ0 _ (hr.sees sH))) ?_
   refine And.intro (t_p hT hA (fun gh=>.string S13) (fun gh w=>sW (op:=.add) (t:=9) (x:=(.tmp 9)) (y:=(.tmp 12)) (yt:=9) (va:=.string S9) (vb:=.string J) (by kernel_rfl) (by kernel_rfl) (by kernel_rfl) (by kernel_rfl) (run_catZ (by omega) a13.symm))) ?_
   trivial
  rintro W2 S3 -
  refine go0 26 [.b 0 0,.cl 72 #[.agg #[.string p.name,.slice A n c,Vi p.skip.op,Vi p.skip.k,Vi p.skip.n,.string p.skip.s,.string p.skip.nm,.slice B m d]] (.bool false),.b 0 2,.cl 11 #[.agg #[Vi p.skip.op,Vi p.skip.k,Vi p.skip.n,.string p.skip.s,.string p.skip.nm,.slice B m d]] (.tuple #[.string T,Vi 0])] [] ?_ (ho:=(And.intro (fun H sH=>hNv _) (And.intro (fun H sH=>hPr _ (ha.sees (S3.trans sH)) (lk.sees (S3.trans sH))) (trivial))))
  refine gQ (.string S24) (fun w=>sW (op:=.add) (t:=9) (x:=(.tmp 23)) (y:=(.const (.string ⟨#[59,32]⟩))) (yt:=9) (va:=.string S13) (vb:=.string ⟨#[59,32]⟩) (by kernel_rfl) (by kernel_rfl) (by kernel_rfl) (by kernel_rfl) (run_catZ (by show S13.size + 2≤_; omega) a24.symm)) ?_
  refine go0 1 [] [] ?_
  refine gQ (.string S26) (fun w=>sW (op:=.add) (t:=9) (x:=(.tmp 24)) (y:=(.tmp 25)) (yt:=9) (va:=.string S24) (vb:=.string T) (by kernel_rfl) (by kernel_rfl) (by kernel_rfl) (by kernel_rfl) (run_catZ (by omega) a26)) ?_
  refine go0 4 [] [] ?_
  refine hQ.to [.string S26] (fun H sH=>?_)
  exact rfl
theorem c_joinL (L:List (List UInt8)) (v:Value) (h:Vw) (hr:RS h 1 v (L.map fun x=>[Value.string (mkB x)])) (hl:L.length≤20) (hx:∀ x∈L,x.length≤10005) :
  C0 Tryz.prog 21 #[v,.string ⟨#[10]⟩] h (fun r _=>r=.string (mkB (Lib.join L [10]))):=by
 have e1:(L.map mkB).map (fun s=>s.data.toList)=L:=by rw [List.map_map]; exact List.map_id'' (fun x=>bV x) L
 have e2:kX (L.map mkB)=L.map fun x=>[Value.string (mkB x)]:=by show List.map _ (List.map mkB L)=_; rw [List.map_map]; rfl
 have hj:=join_len (M:=10005) L hx
 have hm:L.length * (10005 + 1)≤20 * (10005 + 1):=Nat.mul_le_mul_right _ hl
 have:=c_join (L.map mkB) ⟨#[10]⟩ v h (by rw [e2]; exact hr) (by rw [List.length_map]; omega) (by rw [e1]; show (Lib.join L [10]).length≤_; omega)
 rw [e1] at this
 exact this
set_option maxHeartbeats 4000000 in
theorem printForm_any (fm:Fm) (ρ:List Int) (lv:Nat→Nat) (A:Option Addr) (n c:Nat) (B:Option Addr) (m d:Nat) (h:Vw) (lk:Lk h) (hok:OkFm fm ρ lv) (hw:FmW fm) (hF:IsForm h (.slice A n c) (.slice B m d) fm) :
  C0 Tryz.prog 16 #[.agg #[.slice A n c,.slice B m d]] h (fun r _=>r=.tuple #[.string (mkB (Lib.join (lnF fm) [10])),.int .i64 0]):=by
 have he:=lnF_each hok hw
 obtain ⟨vs,A1,c1,e1,-,-,hr,hs,hl,hsl⟩:=nK hF.fields
 obtain ⟨us,ws,B1,d1,e2,-,hrp,hus,hws,hul,hwl⟩:=pgs_open hF.pages
 simp only [Value.slice.injEq] at e1 e2
 obtain ⟨rfl,e1,rfl⟩:=e1
 obtain ⟨rfl,e2,rfl⟩:=e2
 have few:=hok.fields.few
 have fewp:=hok.pages.few
 have hln:=lnF_len fm
 rw [← e1] at hr few
 rw [← e2] at hrp fewp
 have hCk:=fun H q=>shCheck_any fm ρ lv A n c B m d H hok q e1
 have hJn:=fun L v H q1 q2 q3=>c_joinL L v H q1 q2 q3
 have hfd:=fun k f=>lnF_fd (fm:=fm) (k:=k) (f:=f)
 have hpg:=fun k p=>lnF_pg (fm:=fm) (k:=k) (p:=p)
 have hFl:=fun (f:Fd) (q:f∈fm.fields) v H q1 q2=>fieldLine_any f v H (hok.fields.each f q).words q1 q2 (fun g=>⟨((hok.fields.each f q).wf g).2.1,hw.fd f q g⟩)
 have hPl:=fun (p:Pg) (q:p∈fm.pages) A n c B m d H q1 q2 q3=>pageLine_any p A n c B m d H q1 (hw.pg p q) q2 q3
 have hpa:=fun i p hp=>pg_at (i:=i) (p:=p) hus hws hp
 obtain ⟨L,hL⟩:∃ L,lnF fm=L:=⟨_,rfl⟩
 rw [hL] at he hln ⊢
 simp only [hL] at hfd hpg
 rw [← e1,← e2] at hln
 obtain ⟨nN,hNN⟩:∃ N,n + m=N:=⟨_,rfl⟩
 rw [hNN] at hln
 refine xK Tryz.func16 (c:=Tryz.f16.body.getD .skip) (N:=43) ?_
 intro hbx hbad Q hQ
 refine eQ 9 1 ?_
 refine go1 39 [.own,.b 0 0,.cl 36 #[.agg #[.slice A n c,.slice B m d]] (Vi 0),.b 0 0] [] ?_ (ho:=(And.intro (fun H sH=>hCk _ (hF.sees sH)) (trivial)))
 intro b1
 refine cQ [0,1,0,1,1,1] [.block 0,.seq [1,1,1,1]] (fun (k:Nat) X=>∃ (W2:Vw) (v:Value),X W2 [(1,Vp b1),(16,.slice A n c),(17,Vi (n:Int)),(18,Vi (k:Int)),(5,v)] [.box b1 [.slice A n c,.slice B m d],.row v 9 1 ((L.take k).map fun x=>[Value.string (mkB x)])] []∧Sees h W2∧(k≤n)) (fun k=>n - k) (0) (fun X q=>⟨h,(Vz),q _ _ _ _ ⟨rfl,by kernel_rfl⟩,Sees.refl _,Nat.zero_le _⟩) ?_
 rintro k a w ⟨W2,v,hJ,S3,hk⟩; refine fQ hJ ?_; clear hJ a w
 refine go0 6 [] [] ?_
 rcases (by omega:k < n∨k=n) with hlt | hke
 ·obtain ⟨f,hfk⟩:∃ f,fm.fields[k]?=some f:=⟨_,List.getElem?_eq_getElem (by omega)⟩
  obtain ⟨u,hu⟩:∃ u,vs[k]?=some u:=⟨_,List.getElem?_eq_getElem (by omega)⟩
  have hfm:=List.mem_of_getElem? hfk
  have hgu:=AllSrc.get hs hfk hu
  obtain ⟨Au,nu,cu,rfl⟩:=hgu.slice
  have hrow:=lK hfk hu
  have hsn:=oX _ k _ (hfd k f hfk)
  have hlk:(L.take k).length=k:=by rw [List.length_take]; omega
  refine lQ (t:=decide ((k:Int) < (n:Int))) (decide_eq_true (by omega)) ?_
  refine go0 6 [] [] ?_
  obtain ⟨b4,o5,rfl,-,c6⟩:=RS.row hr (hrow)
  refine yK (c6.sees S3) ?_
  refine gov2 11 [.ix b4 o5 n c k,.f 0 0,.own,.b 0 0,.b 0 0,.cl 40 #[.agg #[.string f.name,Vi f.kind,Vi f.ty,Vi f.src.op,Vi f.src.k,Vi f.src.n,.string f.src.s,.string f.src.nm,.slice Au nu cu]] (.string (mkB (fdL f))),.fix] [] ?_ (ho:=(And.intro (by first | omega | (simp; omega)) (And.intro (fun H sH=>hFl f hfm _ _ (lk.sees (S3.trans sH)) (hgu.sees (S3.trans sH))) (trivial))))
  intro b7 b8 W9 S10
  refine goa0 9 [.ap 2 0 ((L.take k).map fun x=>[Value.string (mkB x)]) [[.string (mkB (fdL f))]]] [(27,Vi (IntKind.i64.wrap ((k:Int) + 1)),Vi ((k:Int) + 1))] ?_ (ho:=(And.intro (by simp; omega) (trivial))) (hc:=(And.intro (jJ (by omega) (by omega)) (trivial)))
  intro v26 W11 S12
  refine aQ [(1,Vp b1),(16,.slice (some ⟨b4,o5,none⟩) n c),(17,Vi (n:Int)),(5,.slice (sA v26) (sN v26) (sC v26)),(18,Vi ((k:Int) + 1))] [.box b1 [.slice (some ⟨b4,o5,none⟩) n c,.slice B m d],.row (.slice (sA v26) (sN v26) (sC v26)) 9 1 (((L.take k).map fun x=>[Value.string (mkB x)])++[[.string (mkB (fdL f))]])] [] ?_
  exact kQ (k + 1) (fun X q=>⟨W11,.slice (sA v26) (sN v26) (sC v26),q _ _ _ _ (wW (by rw [hsn,List.map_append]; try rfl)),(S3.trans (S10.trans S12)),by omega⟩) (by omega)
 ·skip
  replace hke:=hke.symm
  subst hke
  refine zK (t:=decide ((n:Int) < (n:Int))) (decide_eq_false (by omega)) ?_
  refine go0 2 [] [] ?_
  refine bQ ?_
  refine go0 12 [.b 0 1] [] ?_
  refine cQ [0,1,0,1,1,1,1] [.block 2,.seq [1,1,1,1,1]] (fun (j:Nat) X=>∃ (W13:Vw) (v2:Value),X W13 [(29,.slice B m d),(30,Vi (m:Int)),(31,Vi (j:Int)),(5,v2)] [.box b1 [.slice A n c,.slice B m d],.row v2 9 1 ((L.take (n + j)).map fun x=>[Value.string (mkB x)])] []∧Sees W2 W13∧(j≤m)) (fun j=>m - j) (0) (fun X q=>⟨W2,v,q _ _ _ _ ⟨rfl,by kernel_rfl⟩,Sees.refl _,Nat.zero_le _⟩) ?_
  rintro j a w ⟨W13,v2,hJ,S14,hj⟩; refine fQ hJ ?_; clear hJ a w
  refine go0 6 [] [] ?_
  rcases (by omega:j < m∨j=m) with hlt | hje
  ·obtain ⟨p,hpk⟩:∃ p,fm.pages[j]?=some p:=⟨_,List.getElem?_eq_getElem (by omega)⟩
   have hpm:=List.mem_of_getElem? hpk
   obtain ⟨Au,cu,Bu,mu,du,hrow,hrs,hra⟩:=hpa j p hpk
   have hsn:=oX _ (n + j) _ (hpg (n + j) p (by omega) (by rw [← e1,Nat.add_sub_cancel_left]; exact hpk))
   have hlk:(L.take (n + j)).length=n + j:=by rw [List.length_take]; omega
   refine lQ (t:=decide ((j:Int) < (m:Int))) (decide_eq_true (by omega)) ?_
   refine go0 6 [] [] ?_
   obtain ⟨b15,o16,rfl,-,c17⟩:=RS.row hrp (hrow)
   refine yK (c17.sees (S3.trans S14)) ?_
   refine gov2 11 [.ix b15 o16 m d j,.f 0 0,.own,.b 0 0,.b 0 0,.cl 41 #[.agg #[.string p.name,.slice Au p.fields.length cu,Vi p.skip.op,Vi p.skip.k,Vi p.skip.n,.string p.skip.s,.string p.skip.nm,.slice Bu mu du]] (.string (mkB (pgW++pgL p))),.fix] [] ?_ (ho:=(And.intro (by first | omega | (simp; omega)) (And.intro (fun H sH=>hPl p hpm _ _ _ _ _ _ _ (lk.sees (S3.trans (S14.trans sH))) (hrs.sees (S3.trans (S14.trans sH))) (hra.sees (S3.trans (S14.trans sH)))) (trivial))))
   intro b18 b19 W20 S21
   refine goa0 9 [.ap 2 0 ((L.take (n + j)).map fun x=>[Value.string (mkB x)]) [[.string (mkB (pgW++pgL p))]]] [(40,Vi (IntKind.i64.wrap ((j:Int) + 1)),Vi ((j:Int) + 1))] ?_ (ho:=(And.intro (by simp; omega) (trivial))) (hc:=(And.intro (jJ (by omega) (by omega)) (trivial)))
   intro v39 W22 S23
   refine aQ [(29,.slice (some ⟨b15,o16,none⟩) m d),(30,Vi (m:Int)),(5,.slice (sA v39) (sN v39) (sC v39)),(31,Vi ((j:Int) + 1))] [.box b1 [.slice A n c,.slice (some ⟨b15,o16,none⟩) m d],.row (.slice (sA v39) (sN v39) (sC v39)) 9 1 (((L.take (n + j)).map fun x=>[Value.string (mkB x)])++[[.string (mkB (pgW++pgL p))]])] [] ?_
   exact kQ (j + 1) (fun X q=>⟨W22,.slice (sA v39) (sN v39) (sC v39),q _ _ _ _ (wW (by rw [← Nat.add_assoc,hsn,List.map_append]; try rfl)),(S14.trans (S21.trans S23)),by omega⟩) (by omega)
  ·skip
   have hLe:L.take (n + j)=L:=List.take_of_length_le (by omega)
   rw [hLe]
   refine g_form 1 (v:=v2) (e:=9) (kk:=1) (l:=(L.map fun x=>[Value.string (mkB x)])) ?_; intro Ax cx hE_v2 hc_v2 hm_v2
   rw [show (L.map fun x=>[Value.string (mkB x)]).length=nN from by first | omega | (simp; done) | (simp; omega)] at hE_v2 hc_v2
   rw [hE_v2]
   refine zK (t:=decide ((j:Int) < (m:Int))) (decide_eq_false (by omega)) ?_
   refine go0 2 [] [] ?_
   refine bQ ?_
   refine go0 5 [] [] ?_
   refine g_freeze 1 (v:=.slice Ax nN cx) (e:=9) (kk:=1) (l:=(L.map fun x=>[Value.string (mkB x)])) ?_; intro W24 S25 fr
   refine go0 6 [.cl 21 #[.slice Ax nN cx,.string ⟨#[10]⟩] (.string (mkB (Lib.join L [10])))] [] ?_ (ho:=(And.intro (fun H sH=>hJn L _ _ (fr.sees sH) (by omega) (fun x hx=>(he x hx).1)) (trivial)))
   refine hQ.to [.string (mkB (Lib.join L [10])),Vi 0] (fun H sH=>?_)
   exact rfl
end Go.Proofs.YthplkompdehjlaaGreatDoor
namespace Go.Proofs.YthplkompdehjlaaGreatDoor
open Go.RowKit
set_option linter.unusedVariables false
def rhoF (need:List (List Nat)):Nat→Nat→Int
 | 0,_=>0
 | t + 1,i=>(need.getD i []).foldl (fun a k=>max a (rhoF need t k + 1)) 0
theorem foldl_same {f g:Int→Nat→Int}:∀ (l:List Nat) (a:Int),(∀ a,∀ k∈l,f a k=g a k)→l.foldl f a=l.foldl g a
 | [],a,h=>rfl
 | k :: l,a,h=>by
  rw [List.foldl_cons,List.foldl_cons,h a k (by simp)]
  exact foldl_same l _ fun a k' hk'=>h a k' (by simp [hk'])
theorem rho_stable {need:List (List Nat)} {lv:Nat→Nat} (low:∀ i,i < need.length→∀ k∈need.getD i [],k < need.length∧lv k < lv i):∀ t s i,i < need.length→lv i < t→lv i < s→rhoF need t i=rhoF need s i
 | 0,s,i,_,h,_=>absurd h (Nat.not_lt_zero _)
 | t + 1,0,i,_,_,h=>absurd h (Nat.not_lt_zero _)
 | t + 1,s + 1,i,hi,h1,h2=>by
  unfold rhoF
  refine foldl_same _ _ fun a k hk=>?_
  obtain ⟨k1,k2⟩:=low i hi k hk
  rw [rho_stable low t s k k1 (by omega) (by omega)]
def rhoL (need:List (List Nat)):List Int:=(List.range need.length).map (rhoF need need.length)
theorem rho_get {need:List (List Nat)} {i:Nat} (h:i < need.length):(rhoL need).getD i 0=rhoF need need.length i:=by
 unfold rhoL
 rw [List.getD_eq_getElem?_getD,List.getElem?_map,List.getElem?_range h]; rfl
theorem ranked_ex {need:List (List Nat)} {lv:Nat→Nat} (low:∀ i,i < need.length→∀ k∈need.getD i [],k < need.length∧lv k < lv i) (few:∀ i,i < need.length→lv i < need.length):Ranked need (rhoL need) lv:=by
 refine ⟨by unfold rhoL; rw [List.length_map,List.length_range],fun i hi=>?_,low,few⟩
 rw [rho_get hi]
 obtain ⟨m,hm⟩:∃ m,need.length=m + 1:=⟨need.length - 1,by omega⟩
 have hf:=few i hi
 show rhoF need need.length i=_
 have e:rhoF need need.length i=(need.getD i []).foldl (fun a k=>max a (rhoF need m k + 1)) 0:=by rw [hm]; rfl
 rw [e]
 refine foldl_same _ _ fun a k hk=>?_
 obtain ⟨k1,k2⟩:=low i hi k hk
 rw [rho_get k1,rho_stable low m need.length k k1 (by omega) (by omega)]
theorem refs_zE:nW zE=[]:=by
 rw [refsE_eq,if_neg (show ¬ zE.op=2 by decide)]
 show []++oW []=[]
 simp [oW]
theorem src_refs {l:List RawD} {k:Nat} {s:ByteArray} (h:s∈nW (srcE l (fJ l k).1 (aJ l (fJ l k).2) (bJ l (fJ l k).2)).1):∃ j,j < k∧s=fname j:=by
 have key:(∃ f∈(fJ l k).1,s=f.name)→∃ j,j < k∧s=fname j:=fun ⟨f,hf,e⟩=>by
  obtain ⟨i,h1,h2,-⟩:=fldT_each l k f hf
  exact ⟨i,h1,by rw [e,h2]⟩
 unfold srcE at h
 split at h
 ·exact key (refs_gen l _ _ _ s h)
 ·split at h
  ·exact key (refs_gen l _ _ _ s h)
  ·simp only [refs_zE] at h; cases h
theorem fldT_get (l:List RawD):∀ k j,j < k→∃ f,(fJ l k).1[j]?=some f∧f.name=fname j∧∀ s∈nW f.src,∃ j',j' < j∧s=fname j'
 | 0,j,h=>absurd h (Nat.not_lt_zero _)
 | k + 1,j,h=>by
  have hl:=pK l k
  show ∃ f,((fJ l k).1++[_])[j]?=some f∧_
  by_cases e:j=k
  ·subst e
   refine ⟨_,by rw [List.getElem?_append_right (by omega),hl,Nat.sub_self]; rfl,rfl,fun s hs=>src_refs hs⟩
  ·rw [List.getElem?_append_left (by omega)]
   exact fldT_get l k j (by omega)
def lvF (l:List RawD) (i:Nat):Nat:=if cJ (aJ l 0).k 2=0 then iJ l - 1 - i else i
theorem form_get (l:List RawD) {i:Nat} (hi:i < iJ l):∃ f,(qK l).fields[i]?=some f∧f.name=fname (lvF l i)∧∀ s∈nW f.src,∃ j',j' < lvF l i∧s=fname j':=by
 show ∃ f,(formF l)[i]?=some f∧_
 have hl:=pK l (iJ l)
 unfold formF lvF
 split
 ·rw [List.getElem?_reverse (by omega),hl]
  exact fldT_get l (iJ l) _ (by omega)
 ·exact fldT_get l (iJ l) i hi
theorem lvF_lt (l:List RawD) {i:Nat} (hi:i < iJ l):lvF l i < iJ l:=by unfold lvF; split <;> omega
theorem lvF_sur (l:List RawD) {j:Nat} (hj:j < iJ l):∃ i,i < iJ l∧lvF l i=j:=by
 unfold lvF
 split
 ·exact ⟨iJ l - 1 - j,by omega,by omega⟩
 ·exact ⟨j,hj,rfl⟩
theorem form_low (l:List RawD):∀ i,i < (jV (qK l).fields).length→∀ k∈(jV (qK l).fields).getD i [],k < (jV (qK l).fields).length∧lvF l k < lvF l i:=by
 have hn:(jV (qK l).fields).length=iJ l:=by unfold jV; rw [List.length_map,form_len]
 rw [hn]
 intro i hi k hk
 obtain ⟨f,hf,hname,hrefs⟩:=form_get l hi
 have hg:(jV (qK l).fields).getD i []=needE (qK l).fields f:=by
  unfold jV
  rw [List.getD_eq_getElem?_getD,List.getElem?_map,hf]; rfl
 rw [hg] at hk
 unfold needE at hk
 split at hk
 ·cases hk
 ·obtain ⟨s,hs,rfl⟩:=List.mem_map.1 hk
  obtain ⟨j,hj,rfl⟩:=hrefs s (mem_namesE.1 hs)
  obtain ⟨i',hi',e⟩:=lvF_sur l (j:=j) (by have:=lvF_lt l hi; omega)
  obtain ⟨g,hgi,hgn,-⟩:=form_get l hi'
  have hfd:=findF_at (form_nodup l) hgi
  rw [hgn,e] at hfd
  have hp:plc (qK l).fields (fname j)=i':=by unfold plc; rw [hfd]; rfl
  rw [hp]
  exact ⟨hi',by omega⟩
theorem form_ranked (l:List RawD):Ranked (jV (qK l).fields) (rhoL (jV (qK l).fields)) (lvF l) :=
 ranked_ex (form_low l) fun i hi=>by
  have hn:(jV (qK l).fields).length=iJ l:=by unfold jV; rw [List.length_map,form_len]
  rw [hn] at hi ⊢
  exact lvF_lt l hi
end Go.Proofs.YthplkompdehjlaaGreatDoor
namespace Go.Proofs.YthplkompdehjlaaGreatDoor
open Go.RowKit
set_option linter.unusedVariables false
theorem smallX_wf:WfE smallX:=by
 refine WfE.mk' (.inr (.inr ⟨(by decide:(3:Int)≤8),(by decide:(8:Int)≤18),rfl,rfl,rfl,rfl,rfl⟩)) (WfL.all fun y hy=>?_)
 have hy:y∈[refE ⟨#[97]⟩,Ex.mk 1 1 1 ⟨#[]⟩ ⟨#[]⟩ []]:=hy
 rcases List.mem_cons.1 hy with rfl | hy
 ·exact (wf_leaf (refE_ok ⟨by decide,by decide,⟨_,rfl,by decide⟩,by decide,by decide⟩) rfl).1
 ·rw [List.mem_singleton.1 hy]
  exact (wf_leaf (x:=.mk 1 1 1 ⟨#[]⟩ ⟨#[]⟩ []) (.inl ⟨rfl,.inl ⟨rfl,(by unfold Lim; decide:Lim 1),rfl⟩,fun _=>(by decide:(0:Int)≤1),rfl,rfl⟩) rfl).1
theorem smallB_wf:WfE smallB:=(wf_leaf (refE_ok (s:=⟨#[98]⟩) ⟨by decide,by decide,⟨_,rfl,by decide⟩,by decide,by decide⟩) rfl).1
theorem small_ok:OkFs smallF.fields:=by
 refine ⟨fun f hf=>?_,by decide,by decide⟩
 have hf:f∈[(⟨⟨#[98]⟩,2,1,smallX⟩:Fd),⟨⟨#[97]⟩,1,1,zE⟩,⟨⟨#[99]⟩,3,3,smallB⟩]:=hf
 rcases List.mem_cons.1 hf with rfl | hf
 ·exact ⟨⟨by decide,by decide,⟨_,rfl,by decide⟩,by decide,by decide⟩,by decide,by decide,by decide,by decide,fun h=>absurd h (show ¬ (2:Int)=1 by decide),fun _=>⟨smallX_wf,by decide,by decide⟩,fun _=>by decide,fun h=>absurd h (show ¬ (2:Int)=3 by decide)⟩
 ·rcases List.mem_cons.1 hf with rfl | hf
  ·exact ⟨⟨by decide,by decide,⟨_,rfl,by decide⟩,by decide,by decide⟩,by decide,by decide,by decide,by decide,fun _=>rfl,fun h=>absurd rfl h,fun h=>absurd h (show ¬ (1:Int)=2 by decide),fun h=>absurd h (show ¬ (1:Int)=3 by decide)⟩
  ·rw [List.mem_singleton.1 hf]
   exact ⟨⟨by decide,by decide,⟨_,rfl,by decide⟩,by decide,by decide⟩,by decide,by decide,by decide,by decide,fun h=>absurd h (show ¬ (3:Int)=1 by decide),fun _=>⟨smallB_wf,by decide,by decide⟩,fun h=>absurd h (show ¬ (3:Int)=2 by decide),fun _=>⟨1,by decide,by decide,by decide⟩⟩
theorem names_one {x:Ex} {s:ByteArray} (h:nW x=[s]):fV x=[s]:=by
 unfold fV namesB
 rw [h]
 have e:dd ([s].map fun s:ByteArray=>s.data.toList)=[s.data.toList]:=by simp [dd]
 rw [e,List.mergeSort_singleton]
 simp
theorem small_needs:jV smallF.fields=[[1],[],[0]]:=by
 have e1:fV smallX=[⟨#[97]⟩]:=names_one (by decide)
 have e2:fV smallB=[⟨#[98]⟩]:=names_one (by decide)
 show [needE smallF.fields ⟨⟨#[98]⟩,2,1,smallX⟩,needE smallF.fields ⟨⟨#[97]⟩,1,1,zE⟩,needE smallF.fields ⟨⟨#[99]⟩,3,3,smallB⟩]=_
 unfold needE
 rw [if_neg (by decide),if_pos rfl,if_neg (by decide)]
 have p1:plc smallF.fields ⟨#[97]⟩=1:=by
  unfold plc
  rw [show (⟨#[97]⟩:ByteArray)=(⟨⟨#[97]⟩,1,1,zE⟩:Fd).name from rfl,findF_at small_ok.nodup (i:=1) rfl]; rfl
 have p2:plc smallF.fields ⟨#[98]⟩=0:=by
  unfold plc
  rw [show (⟨#[98]⟩:ByteArray)=(⟨⟨#[98]⟩,2,1,smallX⟩:Fd).name from rfl,findF_at small_ok.nodup (i:=0) rfl]; rfl
 simp only [e1,e2,List.map_cons,List.map_nil,p1,p2]
theorem small_ranked:Ranked (jV smallF.fields) [1,0,2] (fun i=>[1,0,2].getD i 0):=by
 rw [small_needs]
 exact ranked_ex (need:=[[1],[],[0]]) (lv:=fun i=>[1,0,2].getD i 0) (by decide) (by decide)
theorem small_okG:OkGs smallF.fields smallF.pages:=by
 have hm:∀ p∈smallF.pages,p=⟨⟨#[112,49]⟩,[⟨#[97]⟩],zE⟩∨p=⟨⟨#[112,50]⟩,[⟨#[99]⟩],zE⟩:=fun p hp=>by
  have hp:p∈[(⟨⟨#[112,49]⟩,[⟨#[97]⟩],zE⟩:Pg),⟨⟨#[112,50]⟩,[⟨#[99]⟩],zE⟩]:=hp
  rcases List.mem_cons.1 hp with h | h
  ·exact .inl h
  ·exact .inr (List.mem_singleton.1 h)
 have p1:oK smallF.fields ⟨#[97]⟩=(1:Nat):=findF_at small_ok.nodup (i:=1) (f:=⟨⟨#[97]⟩,1,1,zE⟩) rfl
 have p2:oK smallF.fields ⟨#[99]⟩=(2:Nat):=findF_at small_ok.nodup (i:=2) (f:=⟨⟨#[99]⟩,3,3,smallB⟩) rfl
 refine ⟨by decide,by decide,fun p h=>?_,by decide,fun p h=>?_,fun p h s hs=>?_,by decide,fun p h=>?_⟩
 ·rcases hm p h with rfl | rfl
  ·exact ⟨by decide,by decide,⟨_,rfl,by decide⟩,by decide,by decide⟩
  ·exact ⟨by decide,by decide,⟨_,rfl,by decide⟩,by decide,by decide⟩
 ·rcases hm p h with rfl | rfl <;> decide
 ·rcases hm p h with rfl | rfl
  ·rw [List.mem_singleton.1 hs,p1]; omega
  ·rw [List.mem_singleton.1 hs,p2]; omega
 ·rcases hm p h with rfl | rfl <;> exact .inl rfl
end Go.Proofs.YthplkompdehjlaaGreatDoor
namespace Go.Proofs.YthplkompdehjlaaGreatDoor
open Go.RowKit
set_option linter.unusedVariables false
theorem mem_pgNames {fs:List Fd} {n k:Nat} {s:ByteArray}:s∈wV fs n k↔∃ (i:Nat) (f:Fd),fs[i]?=some f∧i % (n + 1)=k∧f.name=s:=by
 unfold wV
 rw [List.mem_map]
 constructor
 ·rintro ⟨⟨f,i⟩,h,rfl⟩
  obtain ⟨h1,h2⟩:=List.mem_filter.1 h
  exact ⟨i,f,List.mem_zipIdx_iff_getElem?.1 h1,beq_iff_eq.1 h2,rfl⟩
 ·rintro ⟨i,f,h1,h2,rfl⟩
  exact ⟨(f,i),List.mem_filter.2 ⟨List.mem_zipIdx_iff_getElem?.2 h1,beq_iff_eq.2 h2⟩,rfl⟩
theorem pgNames_nodup {fs:List Fd} {n k:Nat} (h:(fs.map (fun f:Fd=>f.name)).Nodup):(wV fs n k).Nodup:=by
 unfold wV
 have e:fs.zipIdx.map (fun p=>p.1.name)=fs.map (fun f:Fd=>f.name):=by
  have:fs.zipIdx.map (fun p=>p.1)=fs:=List.zipIdx_map_fst 0 fs
  calc fs.zipIdx.map (fun p=>p.1.name)=(fs.zipIdx.map (fun p=>p.1)).map (fun f:Fd=>f.name):=by rw [List.map_map]; rfl
   _=_:=by rw [this]
 refine List.Sublist.nodup ?_ (e ▸ h)
 exact List.Sublist.map _ List.filter_sublist
theorem pgT_once {l:List RawD} {fs:List Fd} {n n0:Nat} (hd:(fs.map (fun f:Fd=>f.name)).Nodup):∀ k,((mJ l fs n n0 k).1.flatMap (fun p:Pg=>p.fields)).Nodup∧∀ s∈(mJ l fs n n0 k).1.flatMap (fun p:Pg=>p.fields),∃ (i:Nat) (f:Fd),fs[i]?=some f∧i % (n + 1) < k∧f.name=s
 | 0=>⟨List.nodup_nil,fun s hs=>by cases hs⟩
 | k + 1=>by
  obtain ⟨h1,h2⟩:=pgT_once (l:=l) (n:=n) (n0:=n0) hd k
  have e:(mJ l fs n n0 (k + 1)).1.flatMap (fun p:Pg=>p.fields)=(mJ l fs n n0 k).1.flatMap (fun p:Pg=>p.fields)++wV fs n k:=by
   show ((mJ l fs n n0 k).1++[_]).flatMap _=_
   rw [List.flatMap_append]; simp
  rw [e]
  refine ⟨List.nodup_append.2 ⟨h1,pgNames_nodup hd,fun a ha b hb q=>?_⟩,fun s hs=>?_⟩
  ·obtain ⟨i,f,f1,f2,f3⟩:=h2 a ha
   obtain ⟨j,g,g1,g2,g3⟩:=mem_pgNames.1 hb
   have q1:(fs.map (fun f:Fd=>f.name))[i]?=some a:=by rw [List.getElem?_map,f1]; simp [f3]
   have q2:(fs.map (fun f:Fd=>f.name))[j]?=some a:=by rw [List.getElem?_map,g1]; simp [g3,q]
   have:=(List.getElem?_inj (List.getElem?_eq_some_iff.1 q1).1 hd).1 (q1.trans q2.symm)
   subst this
   omega
  ·rcases List.mem_append.1 hs with hs | hs
   ·obtain ⟨i,f,f1,f2,f3⟩:=h2 s hs
    exact ⟨i,f,f1,by omega,f3⟩
   ·obtain ⟨j,g,g1,g2,g3⟩:=mem_pgNames.1 hs
    exact ⟨j,g,g1,by omega,g3⟩
theorem pgT_names (l:List RawD) (fs:List Fd) (n n0:Nat):∀ k,(mJ l fs n n0 k).1.map (fun p:Pg=>p.name)=(List.range k).map vV
 | 0=>rfl
 | k + 1=>by
  show ((mJ l fs n n0 k).1++[_]).map (fun p:Pg=>p.name)=_
  rw [List.map_append,pgT_names l fs n n0 k,List.range_succ,List.map_append]; rfl
theorem pgT_each (l:List RawD) (fs:List Fd) (n n0:Nat):∀ k,∀ p∈(mJ l fs n n0 k).1,∃ i m r,i < k∧p=⟨vV i,wV fs n i,(eX l fs r m).1⟩
 | 0,p,h=>by cases h
 | k + 1,p,h=>by
  have h:p∈(mJ l fs n n0 k).1++[_]:=h
  rcases List.mem_append.1 h with h | h
  ·obtain ⟨i,m,r,h1,h2⟩:=pgT_each l fs n n0 k p h
   exact ⟨i,m,r,by omega,h2⟩
  ·exact ⟨k,_,_,by omega,List.mem_singleton.1 h⟩
theorem pgName_ok {k:Nat} (h:k < 5):oJ (vV k).data.toList:=by
 match k,h with
 | 0,_=>exact ⟨by decide,by decide,⟨_,rfl,by decide⟩,by decide,by decide⟩
 | 1,_=>exact ⟨by decide,by decide,⟨_,rfl,by decide⟩,by decide,by decide⟩
 | 2,_=>exact ⟨by decide,by decide,⟨_,rfl,by decide⟩,by decide,by decide⟩
 | 3,_=>exact ⟨by decide,by decide,⟨_,rfl,by decide⟩,by decide,by decide⟩
 | 4,_=>exact ⟨by decide,by decide,⟨_,rfl,by decide⟩,by decide,by decide⟩
theorem pgName_inj {i j:Nat} (hi:i < 5) (hj:j < 5) (h:vV i=vV j):i=j:=by
 have key:∀ i,i < 5→∀ j,j < 5→(vV i).data=(vV j).data→i=j:=by decide
 exact key i hi j hj (congrArg ByteArray.data h)
theorem form_okGs (l:List RawD):OkGs (qK l).fields (qK l).pages:=by
 have hn:=eV l
 have hp:=nPages_le l
 have hpl:=form_pages l
 have hT:((fJ l (iJ l)).1.map (fun f:Fd=>f.name)).Nodup:=by
  rw [fldT_names]
  refine List.pairwise_map.2 (List.nodup_range.imp_of_mem ?_)
  intro a b ha hb hab e
  exact hab (fname_inj (by have:=List.mem_range.1 ha; omega) (by have:=List.mem_range.1 hb; omega) e)
 have he:∀ p∈(qK l).pages,∃ i m r,i < eJ l∧p=⟨vV i,wV (fJ l (iJ l)).1 (eJ l) i,(eX l (fJ l (iJ l)).1 r m).1⟩:=pgT_each _ _ _ _ _
 have hok:=form_okFs l _ (form_nodup l) (fun f=>Iff.rfl) (by rw [form_len]; omega)
 refine ⟨by omega,by omega,fun p h=>?_,?_,fun p h=>?_,fun p h s hs=>?_,(pgT_once hT _).1,fun p h=>?_⟩
 ·obtain ⟨i,m,r,hi,rfl⟩:=he p h
  exact pgName_ok (by omega)
 ·show ((mJ l _ _ _ _).1.map (fun p:Pg=>p.name)).Nodup
  rw [pgT_names]
  refine List.pairwise_map.2 (List.nodup_range.imp_of_mem ?_)
  intro a b ha hb hab e
  exact hab (pgName_inj (by have:=List.mem_range.1 ha; omega) (by have:=List.mem_range.1 hb; omega) e)
 ·obtain ⟨i,m,r,hi,rfl⟩:=he p h
  have:=pgNames_len (fJ l (iJ l)).1 (eJ l) i
  rw [pK] at this
  show (wV _ _ _).length≤100
  omega
 ·obtain ⟨i,m,r,hi,rfl⟩:=he p h
  obtain ⟨j,f,f1,-,rfl⟩:=mem_pgNames.1 hs
  obtain ⟨k,hk⟩:=List.mem_iff_getElem?.1 (form_mem.2 (List.mem_of_getElem? f1))
  rw [findF_at (form_nodup l) hk]
  omega
 ·obtain ⟨i,m,r,hi,rfl⟩:=he p h
  show (eX l _ r m).1=zE∨_
  unfold eX
  split
  ·right
   have hnm:∀ f∈(fJ l (iJ l)).1,oJ f.name.data.toList:=fun f hf=>(hok.each f (form_mem.2 hf)).name
   obtain ⟨w1,w2,w3⟩:=genE_ok l _ hnm 1 2 m (by omega) (by omega)
   have ht:=ty_gen (fs:=(fJ l (iJ l)).1) (g:=tyF (qK l).fields) (fun f hf=>tyF_mem (form_nodup l) f (form_mem.2 hf)) l 1 2 m (by omega) (by omega)
   show (gJ l _ 1 2 m).1.op≠0∧_
   generalize (gJ l (fJ l (iJ l)).1 1 2 m).1=x at *
   have w2:(szE x).1≤4:=w2
   refine ⟨?_,w1,by show (szE x).1 < 1000000; omega,?_⟩
   ·rcases w1.top with t | t | t <;> omega
   ·have cx:chkE x=0:=by unfold chkE; rw [if_neg (by omega),if_neg (by omega)]
    have ho:ofE (qK l).fields x=(2,0):=by unfold ofE; rw [if_pos cx,ht]
    show fitsE (qK l).fields x 2=0
    unfold fitsE
    rw [ho]; rfl
  ·left; rfl
end Go.Proofs.YthplkompdehjlaaGreatDoor
