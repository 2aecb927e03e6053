/-
  names.Of: the fields that a formula asks for, each once, rising. (Imports the seat's Iter text: wip/iter.sh.)
-/
import Derived.Test.YthgcgciceejicaaGreatDoorZT33
import Derived.Test.YthgcgciceejicaaGreatDoorZT32
import Derived.Test.YthgcgciceejicaaGreatDoorZT28
set_option maxHeartbeats 8000000
set_option maxRecDepth 100000
namespace Go.Proofs.YthgcgciceejicaaGreatDoor
open Go.RowKit Go.Shelf Go.Maps Go.Sort
attribute [local go_sem] Oper.semAt_some
theorem key_iff {s:ByteArray}:∀ {l:List (ByteArray × Value)},s∈l.map (·.1)↔sget s l≠none
 | []=>by simp [sget]
 | (k,v) :: l=>by
  rw [Ik,Tj,key_iff (l:=l)];rw [show sget s ((k,v) :: l)=if s == k then some v else sget s l from rfl]
  by_cases e:(s == k)=true
  ·rw [Cj e];exact ⟨λ_=>Option.some_ne_none v,λ_=>.inl ((Xk s k).1 e)⟩
  ·rw [Bj e];exact ⟨λh=>h.elim (λq=>absurd ((Xk s k).2 q) e) (λq=>q),.inr⟩
def MetAt (W:World) (M:Nat) (pre:List ByteArray):Prop:=∃ l,W.heap[M]?=some (iW (xY l)) /\ (∀ s,s∈l.map (·.1)↔s∈pre) /\ (l.map (·.1)).Nodup /\ ∀ p∈l,p.2=.bool true
theorem met_nil {W:World} {M:Nat} (h:W.heap[M]?=some (iW (xY []))):MetAt W M []:=⟨[],h,λs=>by simp,List.nodup_nil,λp hp=>by cases hp⟩
theorem met_put {P:Program} {W:World} {M:Nat} {pre:List ByteArray} {t kt et:TypeId} (s:ByteArray) (h:MetAt W M pre) (ht:P.underlying t=some (.map kt et)) (htd:P.underlying kt=some .string) :
  ∃ o W',(Instr.mapUpdate t (.map (some M)) (Vt s) (.bool true)).run P W=.ok () W' /\ W'={ W with heap:=W.heap.setIfInBounds M o } /\ MetAt W' M (pre++[s]):=by
 obtain ⟨l,h1,h2,h3,h4⟩:=h;obtain ⟨l',hu,hg,hn,hm⟩:=run_update_str (P:=P) (s:=s) (v:=.bool true) h1 ht htd;refine ⟨_,_,hu,rfl,l',(Go.MapKept.heap_set h1).1,λx=>?_,hn h3,λp hp=>?_⟩
 ·rw [key_iff,hg x,Qj,Pj, <- h2 x,key_iff]
  by_cases e:x=s
  ·rw [Cj e]; simp [e]
  ·rw [Bj e]; simp [e]
 ·rcases hm p hp with q | q
  ·exact h4 p q
  ·rw [q]
theorem nodup_le {α:Type}:∀ {l m:List α},l.Nodup -> (∀ x∈l,x∈m) -> l.length <= m.length
 | [],m,_,_=>Mj _
 | x :: l,m,hn,hs=>by
  obtain ⟨s,t,rfl⟩:=List.append_of_mem (hs x (by simp));have hx:=Mq.1 hn
  have:=nodup_le (m:=s++t) hx.2 (λy hy=>by
   rcases Qj.1 (hs y (by simp [hy])) with q | q
   ·exact Ek _ q
   ·rcases Tj.1 q with rfl | q
    ·exact absurd hy hx.1
    ·exact Vj _ q)
  simp only [Bk,Sk] at this ⊢;omega
theorem refs_ok {s:ByteArray} {x:Ex} (hw:WfE x) (hs:s∈yX x):qJ s.data.toList:=by
 revert hw hs
 refine ex_ind (p:=λx=>WfE x -> s∈yX x -> qJ s.data.toList) (λx ih hw hs=>?_) x;rw [zX,Qj] at hs;rcases hs with hs | hs
 ·by_cases h2:x.op=2
  ·rw [Cj h2] at hs;rw [Pj.1 hs]; exact (ref_shape hw h2).2
  ·rw [Bj h2] at hs; cases hs
 ·obtain ⟨y,hy,hys⟩:=mem_refsL.1 hs;exact ih y hy (hw.list.get hy) hys
theorem refs_len (x:Ex):(yX x).length <= (szE x).1:=by
 refine ex_ind (p:=λx=>(yX x).length <= (szE x).1) (λx ih=>?_) x;rw [zX,zY,Bk];have hL:∀ l:List Ex,(∀ y∈l,(yX y).length <= (szE y).1) -> (aY l).length <= (szL l).1:=by
  intro l
  induction l with
  | nil=>intro _; simp [aY]
  | cons y l ih2 =>
   intro h;have h1:=h y (by simp);have h2:=ih2 (λz hz=>h z (by simp [hz]));rw [aY,szL,Bk];simp only;omega
 have:=hL x.args ih
 simp only
 split <;> simp <;> omega
theorem of_in (x:Ex) (v:Value) (w:World) (bad:List Nat) (hx:IsArgs ⟨w,bad⟩ x v) (hw:WfE x) (hsz:(szE x).1 < 1000000) (hcx:chkE x=0) :
  CallsIn Fence.wide 6 Tryz.prog 188 #[.agg #[Vi x.op,Vi x.k,Vi x.n,.string x.s,.string x.nm,v]] w (λe W'=>∃ (r:Value) (ss:List (List UInt8)) (D0:DataW Unit),e=.returned (.tuple #[r,Vi 0]) /\ ss.Perm (strKeys D0) /\ (strKeys D0).Nodup /\ (∀ s:ByteArray,s.data.toList∈strKeys D0↔s∈yX x) /\ W'.ownsRow w.heap.size 9 1 r ss.length ((ss.mergeSort (λx y=>decide (x <= y))).map Go.Proofs.encStr) /\ (r=.slice none 0 0↔ss=[]) /\ Below w.heap.size w W'):=by
 have h1:1 <= 6:=by omega
 obtain ⟨xA,xn,xc,rfl⟩:=hx.slice;have HX:=Fj hx;have HW:=Fj hw;refine callsIn_of_wp_marks Tryz.func188 rfl trivial ?_ rfl;simp only [Tryz.ntmps188,Rq,Sk,Fq,Nat.reduceAdd,Nat.reduceSub,Nw,Ow,Pw,Qw,Uv,Xq];have hs0:Sees ⟨w,bad⟩ ⟨w.alloc (.cells #[Vi x.op,Vi x.k,Vi x.n,.string x.s,.string x.nm,.slice xA xn xc] 47),bad⟩:=sees_below ((Wj _ w).alloc (Hj _) _);have hck:CallsIn Fence.wide (6 - 1) Tryz.prog 107 #[.agg #[Vi x.op,Vi x.k,Vi x.n,.string x.s,.string x.nm,.slice xA xn xc]] (w.alloc (.cells #[Vi x.op,Vi x.k,Vi x.n,.string x.s,.string x.nm,.slice xA xn xc] 47)) (λe W'=>e=.returned (Vi 0) /\ Below (w.alloc (.cells #[Vi x.op,Vi x.k,Vi x.n,.string x.s,.string x.nm,.slice xA xn xc] 47)).heap.size (w.alloc (.cells #[Vi x.op,Vi x.k,Vi x.n,.string x.s,.string x.nm,.slice xA xn xc] 47)) W'):=by
  refine callsIn_wide.2 ((check_any x (.slice xA xn xc) ⟨w.alloc (.cells #[Vi x.op,Vi x.k,Vi x.n,.string x.s,.string x.nm,.slice xA xn xc] 47),[]⟩ (hx.sees ⟨hs0.size,λb hb _=>((Wj _ w).alloc (Hj _) _).block b hb,λ_ h=>(by cases h)⟩) hw hsz (λx hx=>by cases hx) (by simp) (by simp) (by simp)).mono ?_);rintro e W' ⟨r,Bo,rfl,hlo,-,-,rfl⟩;exact ⟨by rw [hcx],hlo.below⟩
 gi_wp2_with ((try refine ⟨trivial,?_⟩); (try refine ⟨sZ _,?_⟩); gi_at_call 107; refine hck.mono ?_; clear hck; rintro e W1 ⟨rfl,hB1⟩)
 have bx0:=Box.new w #[Vi x.op,Vi x.k,Vi x.n,.string x.s,.string x.nm,.slice xA xn xc] 47;have hz0:(w.alloc (.cells #[Vi x.op,Vi x.k,Vi x.n,.string x.s,.string x.nm,.slice xA xn xc] 47)).heap.size=w.heap.size + 1:=by simp
 have hBw:Below w.heap.size w W1:=((Wj _ w).alloc (Hj _) _).trans (hB1.mono (by simp));generalize (w.alloc (.cells #[Vi x.op,Vi x.k,Vi x.n,.string x.s,.string x.nm,.slice xA xn xc] 47))=W0 at *;obtain ⟨M,hM⟩:∃ M,M=W1.heap.size:=⟨_,rfl⟩;have hb1:=bx0.low hB1 (by omega);have hsz1:=hB1.size;obtain ⟨W2,hW2⟩:∃ W2,W2=W1.alloc (.map #[] 0):=⟨_,rfl⟩;obtain ⟨W3,hW3⟩:∃ W3,W3=W2.alloc (.cells #[.map (some M)] 316):=⟨_,rfl⟩;have hb3:Box W3 w.heap.size [Vi x.op,Vi x.k,Vi x.n,.string x.s,.string x.nm,.slice xA xn xc]:=by
  rw [hW3,hW2];exact hb1.low (((Wj _ W1).alloc (Hj _) _).alloc (by simp) _) (by omega)
 have c0:=hb3.cells 0 _ rfl;have c1:=hb3.cells 1 _ rfl;have c2:=hb3.cells 2 _ rfl;have c3:=hb3.cells 3 _ rfl;have c4:=hb3.cells 4 _ rfl;have c5:=hb3.cells 5 _ rfl;rw [hW3,hW2,hM] at c0 c1 c2 c3 c4 c5;simp only [run_makeMap,Result.andThen]
 gi_wp2_with ((try refine ⟨trivial,?_⟩); (try refine ⟨sZ _,?_⟩); gi_at_call 224; refine (refs_in x (.slice xA xn xc) (6 - 1) _).mono ?_; rintro e w' ⟨rfl,rfl⟩)
 rw [<- hM, <- hW2, <- hW3];have z2:W2.heap.size=M + 1:=by rw [hW2,hM]; simp
 have z3:W3.heap.size=M + 1 + 1:=by rw [hW3,World.size_alloc,z2]
 have m3:W3.heap[M]?=some (iW (xY [])):=by
  rw [hW3];refine ((Kw _ _).2 _ (by omega)).trans ?_;rw [hW2,hM]; exact (Kw _ _).1
 have b3:Boxed W3 (M + 1) 316 (.map (some M)):=by rw [hW3, <- z2]; exact Boxed.new _ _ _
 obtain ⟨W4,hW4⟩:∃ W4,W4=W3.alloc (.cells #[Vi x.op,Vi x.k,Vi x.n,.string x.s,.string x.nm,.slice xA xn xc] 47):=⟨_,rfl⟩;have z4:W4.heap.size=M + 1 + 1 + 1:=by rw [hW4,World.size_alloc,z3]
 have m4:W4.heap[M]?=some (iW (xY [])):=by rw [hW4]; exact ((Kw _ _).2 _ (by omega)).trans m3
 have b4:Boxed W4 (M + 1) 316 (.map (some M)):=by rw [hW4]; exact b3.alloc _
 have x4:W4.heap[M + 1 + 1]?=some (.cells #[Vi x.op,Vi x.k,Vi x.n,.string x.s,.string x.nm,.slice xA xn xc] 47 (0,0)):=by rw [hW4, <- z3]; exact World.alloc_heap_new _ _
 have hB4:Below w.heap.size w W4:=by
  rw [hW4,hW3,hW2];exact hBw.trans (((((Wj _ W1).alloc (Hj _) _).alloc (by simp) _).alloc (by simp; omega) _).mono (by omega))
 rw [<- hW4];clear hW4 hW3 hW2 c0 c1 c2 c3 c4 c5 hb3 m3 b3 z2 z3;have HB:=Fj hB4;have HM:=Fj m4;have HBX:=Fj b4;have HX4:=Fj x4;clear hB4 m4 b4 x4 hb1 bx0 hB1 hs0 hx hw;subst hM;refine wpIn_rangeFunc_ownG (α:=ByteArray) rfl h1 (gf:=253) (lb:=#[.pointer (some ⟨W1.heap.size + 1 + 1,0,none⟩)]) rfl trivial (enters_of Tryz.func253 (by kernel_rfl) rfl)
  (refs_stops x (.slice xA xn xc) ⟨w,bad⟩ HX.out HW.out (6 - 1) (W1.heap.size + 1 + 1) W4 HB.out HX4.out) kp_t (kp_b HB.out.size) (Wj _ _) (λ_=>rfl)
  (λpre W=>(MetAt W W1.heap.size pre /\ Boxed W (W1.heap.size + 1) 316 (.map (some W1.heap.size))) /\ Below w.heap.size w W)
  (λ_ _ W=>False /\ Below w.heap.size w W)
  (OwnFrom.and (λs A B row hs hg hr=>⟨by
    obtain ⟨l,h2,h3⟩:=hs.1;exact ⟨l,(hg.block _ (Nk.1 h2).1 (λe=>by have:=(hr _ e.symm).1; omega)).trans h2,h3⟩,hs.2.kept hg (cells_own hs.2 rfl (λr e=>(hr r e).2))⟩) (ownFrom_below (Hj _) (by have:=HB.out.size; omega)))
  (λc=>OwnFrom.and (λs A B row hs hg hr=>hs) (ownFrom_below (Hj _) (by have:=HB.out.size; omega)))
  ⟨⟨met_nil HM.out,HBX.out⟩,HB.out⟩
  (λs=>{ tmps:=#[.agg #[Vi x.op,Vi x.k,Vi x.n,.string x.s,.string x.nm,.slice xA xn xc],.pointer (some ⟨w.heap.size,0,none⟩),.slice none 0 0,Vi 0,Vi 0,.pointer (some ⟨W1.heap.size + 1,0,none⟩),.string s,.agg #[Vi x.op,Vi x.k,Vi x.n,.string x.s,.string x.nm,.slice xA xn xc],Vi 0,Vi 0,.bool false,undef,.map (some W1.heap.size),.agg #[Vi x.op,Vi x.k,Vi x.n,.string x.s,.string x.nm,.slice xA xn xc],.func (.func 253) #[] #[.pointer (some ⟨W1.heap.size + 1 + 1,0,none⟩)],.string s,undef,undef,undef,undef,undef],defers:=[] }) ?assign ?body ?done ?stop
 case assign =>
  intro l s W K hK
  gi_wp2
  exact hK
 case body =>
  rintro l pre s W ⟨⟨hmet,hbx⟩,hB⟩ hpl;obtain ⟨o,W',hu,hW',hmet'⟩:=met_put (P:=Tryz.prog) (t:=316) s hmet Tryz.underlying316 Tryz.underlying9;obtain ⟨lm,hm,-⟩:=hmet;have cM:=hbx.cell;have hgr:=grown_set o hm;have hml:=(Nk.1 hm).1;have hbl:Below w.heap.size W _:=(Wj w.heap.size W).grown hgr hB.size (λk e=>by cases e; exact hBw.size);have hkc:=KeepsCells.grown hgr (λr e=>by cases e; exact ⟨_,hm,rfl⟩);rw [<- hW'] at hgr hbl hkc;have HF:=Fj (Aj (KeepsFrom.of_grownBy (B:=W4.heap.size) hgr (λj e=>by cases e; omega)) (Aj (Kp.mk hbl hkc) (Aj (Aj hmet' (hkc.boxed hbx)) (hB.trans hbl))));clear hgr hbl hkc hmet' hW' hB hm hml hbx hpl
  gi_wp2_with (first | (gi_at_mapUpdate; refine wpListIn_mapUpdate_at rfl _ _ _ 316 rfl rfl rfl rfl hu ?_) | gi_in)
  have hfo:=HF.out;rw [z4] at hfo;exact ⟨hfo.1,hfo.2.1,hfo.2.2⟩
 case done =>
  rintro D ys W hD rfl ⟨⟨⟨l,hm,hk,hnd,hv⟩,hbx⟩,hB⟩ hK;have hks:∀ p∈l,p.1.size <= 10:=λp hp=>by
   have hr:=(hk p.1).1 (Rj.2 ⟨p,hp,rfl⟩)
   have:=refs_ok HW.out hr
   simpa using this.2.1
  have hll:l.length <= 1000000:=by
   have h1:=nodup_le hnd (m:=yX x) (λs hs=>(hk s).1 hs);have h2:=refs_len x;simp only [Ij] at h1;omega
  obtain ⟨D0,hown,hkeys,hsize⟩:=map_owned (P:=Tryz.prog) (k:=9) (e:=4) hm hnd (λp hp=>by have:=hks p hp; unfold maxLen; omega) hv (by unfold maxLen; omega) Tryz.underlying9 Tryz.underlying4;have cM:=hbx.cell;have hfK:Fence.wide.fn 226:=trivial;have hfS:Fence.wide.fn 225:=trivial
  gi_wp2_with (first
   | (gi_at_call 226; refine (Tryz.maps_Keys_226 _ _).mono ?_; rintro e w' ⟨rfl,rfl⟩)
   | (gi_at_call 225; refine (Tryz.slices_Sorted_keys_225_226 W1.heap.size l.length D0 _ W hown (by unfold maxLen; omega) (by omega)).mono ?_; rintro e w' ⟨r,ss,rfl,hS,hrow,hnil,hb⟩))
  have hWD:D < W.heap.size:=(Nk.1 hK).1;have hza:(W.alloc (.cells #[.map (some W1.heap.size)] 316)).heap.size=W.heap.size + 1:=World.size_alloc _ _;have hK':w'.heap[D]?=some (.deferred (some [])):=(hb.block D (by omega)).trans (((Wj _ W).alloc (Hj _) _).block D hWD |>.trans hK);have hBz:=hB.size;have hrow2:(w'.putObj D (.deferred none)).ownsRow w.heap.size 9 1 r ss.length ((ss.mergeSort (λx y=>decide (x <= y))).map Go.Proofs.encStr):=by
   refine ⟨hrow.1,?_⟩;rcases hrow.2 with q | ⟨g,cap,cur,e,hbg,hg,rest⟩
   ·exact .inl q
   ·refine .inr ⟨g,cap,cur,e,by omega,?_,rest⟩;rw [(grownBy_putObj' w' D (.deferred none)).block g (Nk.1 hg).1 (λe=>by injection e; omega)];exact hg
  have hmem:∀ s:ByteArray,s.data.toList∈strKeys D0↔s∈yX x:=λs=>by
   rw [hkeys.mem_iff, <- hk s,Rj,Rj]
   constructor
   ·rintro ⟨p,hp,e⟩;refine ⟨p,hp,?_⟩;obtain ⟨⟨⟨a⟩⟩,b⟩:=p;obtain ⟨⟨c⟩⟩:=s;simp only at e ⊢;rw [e]
   ·rintro ⟨p,hp,e⟩;exact ⟨p,hp,by rw [e]⟩
  have hndk:(strKeys D0).Nodup:=by
   rw [hkeys.nodup_iff];refine Ew.2 ((Ew.1 hnd).imp λ{p q} hpq e=>hpq ?_);obtain ⟨⟨⟨a⟩⟩,b⟩:=p;obtain ⟨⟨⟨c⟩⟩,d⟩:=q;simp only at e ⊢;rw [e]
  refine ⟨by simp,.inl ⟨_,_,rfl,run_takeDeferred hK',?_⟩⟩;refine ⟨.tuple #[r,Vi 0],?_,r,ss,D0,rfl,hS,hndk,hmem,hrow2,hnil,(hB.trans ((((Wj w.heap.size W).alloc (by omega) _)).trans (hb.mono (by omega)))).trans (belowK_b (w:=w) (Hj _) _ D _ _ (by omega) hK' rfl rfl)⟩;simp [results,Tryz.f188,go_sem]
 case stop =>
  rintro D c pre W hD - ⟨hf,-⟩;exact hf.elim
def dd {α:Type} [DecidableEq α]:List α -> List α
 | []=>[]
 | x :: l=>if x∈l then dd l else x :: dd l
theorem mem_dd {α:Type} [DecidableEq α] {x:α}:∀ {l:List α},x∈dd l↔x∈l
 | []=>Iff.rfl
 | y :: l=>by
  unfold dd
  split
  ·rename_i h;rw [mem_dd (l:=l),Tj];exact ⟨.inr,λq=>q.elim (λe=>e ▸ h) id⟩
  ·rw [Tj,Tj,mem_dd (l:=l)]
theorem nodup_dd {α:Type} [DecidableEq α]:∀ l:List α,(dd l).Nodup
 | []=>List.nodup_nil
 | y :: l=>by
  unfold dd
  split
  ·exact nodup_dd l
  ·rename_i h;exact Mq.2 ⟨λq=>h (mem_dd.1 q),nodup_dd l⟩
def namesB (x:Ex):List (List UInt8):=(dd ((yX x).map λs=>s.data.toList)).mergeSort λx y=>decide (x <= y)
def mW (x:Ex):List ByteArray:=(namesB x).map λl=>⟨l.toArray⟩
theorem mem_namesB {x:Ex} {l:List UInt8}:l∈namesB x↔∃ s∈yX x,s.data.toList=l:=by
 unfold namesB;rw [List.mem_mergeSort,mem_dd,Rj]
theorem mem_namesE {x:Ex} {s:ByteArray}:s∈mW x↔s∈yX x:=by
 unfold mW;rw [Rj]
 constructor
 ·rintro ⟨l,hl,rfl⟩;obtain ⟨t,ht,rfl⟩:=mem_namesB.1 hl
  have:(⟨t.data.toList.toArray⟩:ByteArray)=t:=by simp
  rw [this]; exact ht
 ·intro h;exact ⟨s.data.toList,mem_namesB.2 ⟨s,h,rfl⟩,by simp⟩
theorem namesB_nodup (x:Ex):(namesB x).Nodup:=(List.mergeSort_perm _ _).nodup_iff.2 (nodup_dd _)
theorem namesE_nodup (x:Ex):(mW x).Nodup:=Ew.2 ((namesB_nodup x).imp λ{a b} h e=>h (by simpa using Dj (λs:ByteArray=>s.data.toList) e))
theorem namesE_len (x:Ex):(mW x).length <= (yX x).length:=nodup_le (namesE_nodup x) λ_ h=>mem_namesE.1 h
theorem sort_names {x:Ex} {ss ks:List (List UInt8)} (h:ss.Perm ks) (hn:ks.Nodup) (hm:∀ s:ByteArray,s.data.toList∈ks↔s∈yX x):ss.mergeSort (λx y=>decide (x <= y))=namesB x:=by
 refine mergeSort_of_perm (h.trans ((List.perm_ext_iff_of_nodup hn (nodup_dd _)).2 λl=>?_));rw [mem_dd,Rj]
 have:=hm ⟨l.toArray⟩
 simp only at this;rw [this]
 constructor
 ·intro q; exact ⟨_,q,by simp⟩
 ·rintro ⟨s,hs,rfl⟩
  simpa using hs
theorem enc_flat:∀ l:List (List UInt8),(l.map Go.Proofs.encStr)=(yY (l.map λl=>(⟨l.toArray⟩:ByteArray))).flatten
 | []=>rfl
 | x :: l=>by
  rw [Ik,enc_flat l]; rfl
theorem nmOf_any (x:Ex) (v:Value) (h:Vw) (hx:IsArgs h x v) (hw:WfE x) (hsz:(szE x).1 < 1000000) (hcx:chkE x=0) :
  C0 Tryz.prog 188 #[.agg #[Vi x.op,Vi x.k,Vi x.n,.string x.s,.string x.nm,v]] h (λr h'=>∃ A c,r=.tuple #[.slice A (mW x).length c,Vi 0] /\ RS h' 1 (.slice A (mW x).length c) (yY (mW x))):=by
 intro _ _ _ hbad;refine (callsIn_wide.1 (of_in x v h.w h.bad hx hw hsz hcx)).mono ?_;rintro e w' ⟨r,ss,D0,rfl,hS,hnd,hm,hrow,-,hb⟩;rw [sort_names hS hnd hm,enc_flat] at hrow;have hl:ss.length=(yY (mW x)).length:=by
  rw [Ij,mW,Ij, <- sort_names hS hnd hm,List.length_mergeSort]
 rw [hl] at hrow;have hent:Ent.ok h.w.heap.size w' (.row r 9 1 (yY (mW x))):=⟨hrow,λq hq=>by obtain ⟨s,-,rfl⟩:=Rj.1 hq; rfl⟩;have hrs:RS ⟨w',h.bad⟩ 1 r (yY (mW x)):=row_rs hent λb hb' hm=>by have:=(hrow.lt b hb').1; have:=hbad b hm; omega
 obtain ⟨A,c,e,-⟩:=hrs.form;rw [Ij] at e;subst e;exact ⟨_,[],rfl,Low.of_below hb,(λx hx=>by cases hx),rfl,A,c,rfl,hrs⟩
open Go.RowKit
def needE (fs:List Fd) (f:Fd):List Nat:=if f.kind=1 then [] else (mW f.src).map (plc fs)
def pW (fs:List Fd):List (List Nat):=fs.map (needE fs)
def jW (out:List Int):Int -> List Nat -> Int
 | a,[]=>a
 | a,k :: l=>if out.getD k 0 < 0 then -1 else jW out (max a (out.getD k 0 + 1)) l
def rkStep (need:List (List Nat)) (out:List Int) (i:Nat):List Int:=out.set i (max (out.getD i 0) (jW out 0 (need.getD i [])))
def fY (need:List (List Nat)) (out:List Int):Nat -> List Int
 | 0=>out
 | i + 1=>rkStep need (fY need out i) i
def wX (need:List (List Nat)):Nat -> List Int
 | 0=>List.replicate need.length (-1)
 | t + 1=>fY need (wX need t) need.length
theorem round_len (need:List (List Nat)) (out:List Int):∀ i,(fY need out i).length=out.length
 | 0=>rfl
 | i + 1=>by rw [fY,rkStep,Qq,round_len need out i]
theorem ranks_len (need:List (List Nat)):∀ t,(wX need t).length=need.length
 | 0=>by rw [wX,Sv]
 | t + 1=>by rw [wX,round_len,ranks_len need t]
def topR (r:List Int) (l:List Nat):Int:=l.foldl (λa k=>max a (r.getD k 0 + 1)) 0
theorem fold_top (r:List Int):∀ (l:List Nat) (a:Int),0 <= a -> l.foldl (λa k=>max a (r.getD k 0 + 1)) a=max a (topR r l) /\ 0 <= topR r l
 | [],a,h=>⟨by unfold topR; simp only [List.foldl_nil]; omega,by unfold topR; simp⟩
 | k :: l,a,h=>by
  have h1:=fold_top r l (max a (r.getD k 0 + 1)) (by omega);have h2:=fold_top r l (max 0 (r.getD k 0 + 1)) (by omega);have e:topR r (k :: l)=max (max 0 (r.getD k 0 + 1)) (topR r l):=by show List.foldl _ _ _=_; rw [Kv]; exact h2.1
  rw [Kv,h1.1,e]
  have:=h1.2
  exact ⟨by omega,by omega⟩
theorem top_cons (r:List Int) (k:Nat) (l:List Nat):topR r (k :: l)=max (max 0 (r.getD k 0 + 1)) (topR r l):=(fold_top r l (max 0 (r.getD k 0 + 1)) (by omega)).1
theorem top_nn (r:List Int) (l:List Nat):0 <= topR r l:=(fold_top r l 0 (Tq _)).2
theorem top_le {r:List Int} {k:Nat}:∀ {l:List Nat},k∈l -> r.getD k 0 + 1 <= topR r l
 | x :: l,h=>by
  rw [top_cons];rcases Tj.1 h with rfl | h
  ·omega
  ·have:=top_le (r:=r) h; omega
structure Ranked (need:List (List Nat)) (ρ:List Int) (lv:Nat -> Nat):Prop where
 len:ρ.length=need.length
 at_:∀ i,i < need.length -> ρ.getD i 0=topR ρ (need.getD i [])
 low:∀ i,i < need.length -> ∀ k∈need.getD i [],k < need.length /\ lv k < lv i
 few:∀ i,i < need.length -> lv i < need.length
theorem mostA_yes {out ρ:List Int}:∀ (l:List Nat) (a:Int),0 <= a -> (∀ k∈l,out.getD k 0=ρ.getD k 0 /\ 0 <= ρ.getD k 0) -> jW out a l=max a (topR ρ l)
 | [],a,h,_=>by unfold jW topR; simp only [List.foldl_nil]; omega
 | k :: l,a,h,hk=>by
  obtain ⟨h1,h2⟩:=hk k (by simp);unfold jW;rw [Bj (by omega),mostA_yes l _ (by omega) (λk' hk'=>hk k' (by simp [hk'])),h1,top_cons];omega
theorem mostA_no {out:List Int}:∀ (l:List Nat) (a:Int),(∃ k∈l,out.getD k 0 < 0) -> jW out a l = -1
 | k :: l,a,⟨k',hk',h⟩=>by
  unfold jW
  split
  ·rfl
  ·rename_i q;rcases Tj.1 hk' with rfl | hk'
   ·exact absurd h q
   ·exact mostA_no l _ ⟨k',hk',h⟩
structure Good (need:List (List Nat)) (ρ:List Int) (lv:Nat -> Nat) (out:List Int) (t i:Nat):Prop where
 len:out.length=need.length
 or_:∀ j,j < need.length -> out.getD j 0=ρ.getD j 0\/out.getD j 0 = -1
 has:∀ j,j < need.length -> lv j < t -> out.getD j 0=ρ.getD j 0
 now:∀ j,j < i -> j < need.length -> lv j < t + 1 -> out.getD j 0=ρ.getD j 0
theorem rank_nn {need:List (List Nat)} {ρ:List Int} {lv:Nat -> Nat} (h:Ranked need ρ lv) {i:Nat} (hi:i < need.length):0 <= ρ.getD i 0:=by rw [h.at_ i hi]; exact top_nn _ _
theorem getD_set {l:List Int} {i j:Nat} {v:Int} (hi:i < l.length):(l.set i v).getD j 0=if j=i then v else l.getD j 0:=by
 rw [Uk,Uk,Yv]
 by_cases e:i=j
 ·subst e; rw [Cj rfl,Cj hi,Cj rfl]; rfl
 ·rw [Bj e,Bj λq=>e q.symm]
theorem step_good {need:List (List Nat)} {ρ:List Int} {lv:Nat -> Nat} (h:Ranked need ρ lv) {out:List Int} {t i:Nat} (g:Good need ρ lv out t i) (hi:i < need.length):Good need ρ lv (rkStep need out i) t (i + 1):=by
 have hil:i < out.length:=by rw [g.len]; exact hi
 have hn:=rank_nn h hi;have hold:=g.or_ i hi;have key:(max (out.getD i 0) (jW out 0 (need.getD i []))=ρ.getD i 0\/max (out.getD i 0) (jW out 0 (need.getD i []))=out.getD i 0) /\ (lv i < t + 1 -> max (out.getD i 0) (jW out 0 (need.getD i []))=ρ.getD i 0):=by
  by_cases q:∃ k∈need.getD i [],out.getD k 0 < 0
  ·rw [mostA_no _ _ q];refine ⟨.inr (by omega),λhlv=>?_⟩;obtain ⟨k,hk,hkl⟩:=q;obtain ⟨k1,k2⟩:=h.low i hi k hk
   have:=g.has k k1 (by omega)
   have:=rank_nn h k1
   omega
  ·have hy:jW out 0 (need.getD i [])=max 0 (topR ρ (need.getD i [])):=mostA_yes _ _ (Tq _) λk hk=>by
    obtain ⟨k1,k2⟩:=h.low i hi k hk;have hp:=rank_nn h k1;refine ⟨?_,hp⟩;rcases g.or_ k k1 with e | e
    ·exact e
    ·exact absurd ⟨k,hk,by omega⟩ q
   rw [hy, <- h.at_ i hi];exact ⟨.inl (by omega),λ_=>by omega⟩
 unfold rkStep;refine ⟨by rw [Qq]; exact g.len,λj hj=>?_,λj hj hl=>?_,λj hj hj2 hl=>?_⟩
 ·rw [getD_set hil]
  split
  ·rename_i e; subst e;rcases key.1 with q | q
   ·exact .inl q
   ·rw [q]; exact hold
  ·exact g.or_ j hj
 ·rw [getD_set hil]
  split
  ·rename_i e; subst e; exact key.2 (by omega)
  ·exact g.has j hj hl
 ·rw [getD_set hil]
  split
  ·rename_i e; subst e; exact key.2 hl
  ·exact g.now j (by omega) hj2 hl
theorem round_good {need:List (List Nat)} {ρ:List Int} {lv:Nat -> Nat} (h:Ranked need ρ lv) {out:List Int} {t:Nat} (g:Good need ρ lv out t 0):∀ i,i <= need.length -> Good need ρ lv (fY need out i) t i
 | 0,_=>g
 | i + 1,hi=>step_good h (round_good h g i (by omega)) (by omega)
theorem ranks_good {need:List (List Nat)} {ρ:List Int} {lv:Nat -> Nat} (h:Ranked need ρ lv):∀ t,Good need ρ lv (wX need t) t 0
 | 0=>⟨ranks_len need 0,λj hj=>.inr (by rw [wX,Uk,List.getElem?_replicate,Cj hj]; rfl),λj hj hl=>absurd hl (by omega),λj hj=>absurd hj (by omega)⟩
 | t + 1=>by
  have g:=round_good h (ranks_good h t) need.length (Hj _);exact ⟨g.len,g.or_,λj hj hl=>g.now j hj hj hl,λj hj=>absurd hj (by omega)⟩
theorem ranks_true {need:List (List Nat)} {ρ:List Int} {lv:Nat -> Nat} (h:Ranked need ρ lv):wX need need.length=ρ:=by
 have g:=ranks_good h need.length;refine Vq λi=>?_
 by_cases hi:i < need.length
 ·have:=g.has i hi (h.few i hi)
  rw [Uk,Uk,Gj (by rw [g.len]; exact hi),Gj (by rw [h.len]; exact hi)] at this;rw [Gj (by rw [g.len]; exact hi),Gj (by rw [h.len]; exact hi)];exact Dj some this
 ·rw [Gv (by rw [g.len]; omega),Gv (by rw [h.len]; omega)]
set_option linter.unusedVariables false
abbrev oW (l:List Nat):List (List Value):=l.map λ(k:Nat)=>[Value.int .i64 (k:Int)]
theorem natRows_snoc (l:List Nat) (k:Nat):oW (l++[k])=oW l++[[Vi (k:Int)]]:=by simp [oW]
def NeedAll (h:Vw):List (List Nat) -> List Value -> Prop
 | [],us=>us=[]
 | x :: l,us=>∃ u r,us=u :: r /\ RS h 1 u (oW x) /\ NeedAll h l r
theorem NeedAll.sees {h h':Vw} (s:Sees h h'):∀ {l:List (List Nat)} {us:List Value},NeedAll h l us -> NeedAll h' l us
 | [],_,k=>k
 | x :: l,_,⟨u,r,e,k1,k2⟩=>⟨u,r,e,k1.sees s,NeedAll.sees s k2⟩
theorem NeedAll.len {h:Vw}:∀ {l:List (List Nat)} {us:List Value},NeedAll h l us -> us.length=l.length
 | [],_,k=>by cases k; rfl
 | x :: l,_,⟨u,r,e,k1,k2⟩=>by subst e; simp [NeedAll.len k2]
theorem NeedAll.snoc {h:Vw} {x:List Nat} {u:Value} (k:RS h 1 u (oW x)):∀ {l:List (List Nat)} {us:List Value},NeedAll h l us -> NeedAll h (l++[x]) (us++[u])
 | [],_,e=>by cases e; exact ⟨u,[],rfl,k,rfl⟩
 | y :: l,_,⟨u',r,e,k1,k2⟩=>by subst e; exact ⟨u',r++[u],rfl,k1,NeedAll.snoc k k2⟩
theorem NeedAll.get {h:Vw}:∀ {l:List (List Nat)} {us:List Value},NeedAll h l us -> ∀ {i:Nat} {x:List Nat} {u:Value},l[i]?=some x -> us[i]?=some u -> RS h 1 u (oW x)
 | [],_,_,i,x,u,hx,_=>by simp at hx
 | y :: l,_,⟨u',r,e,k1,k2⟩,i,x,u,hx,hu=>by
  subst e
  cases i with
  | zero=>simp at hx hu; subst hx hu; exact k1
  | succ i=>exact NeedAll.get k2 (by simpa using hx) (by simpa using hu)
theorem refs_le (x:Ex):(yX x).length <= (szE x).1:=by
 refine ex_ind (p:=λx=>(yX x).length <= (szE x).1) (λx ih=>?_) x;have key:∀ l:List Ex,(∀ y∈l,(yX y).length <= (szE y).1) -> (aY l).length <= (szL l).1:=by
  intro l
  induction l with
  | nil=>intro _; simp [aY]
  | cons y l ihl =>
   intro hl;have h1:=hl y (by simp);have h2:=ihl λz hz=>hl z (by simp [hz]);rw [aY,szL,Bk];simp only;omega
 have:=key x.args ih
 rw [zX,zY,Bk];simp only
 split <;> simp <;> omega
theorem one_snoc (us:List Value) (u:Value):(us++[u]).map (λu=>[u])=us.map (λu=>[u])++[[u]]:=by simp
theorem needs_any (fs:List Fd) (fv:Value) (h:Vw) (hok:OkFs fs) (hfs:IsFds h fv fs) :
  C0 Tryz.prog 142 #[fv] h (λr h'=>∃ A c us,r=.slice A fs.length c /\ RS h' 1 (.slice A fs.length c) (us.map λu=>[u]) /\ NeedAll h' (pW fs) us):=by
 obtain ⟨vs,A,c,rfl,-,-,hr,hsrc,hvl,hsl⟩:=bQ hfs;have few:=hok.few;have hFi:=λH s q=>findP_any fs (.slice A fs.length c) s H q (by omega);generalize hL:fs.length=len at *;refine pQ Tryz.func142 λhbx hbad Q hQ=>?_;refine cV 62 1 ?_;refine go0 19 [] [] ?_;refine yQ [0,1,0,1,1] [.block 0,.seq [1,1,1]] (λ(k:Nat) X=>∃ (W1:Vw) (v:Value) (us:List Value),X W1 [(0,.slice A len c),(13,.slice A len c),(14,Vi (len:Int)),(15,Vi (k:Int)),(3,v)] [.row v 62 1 (us.map (λu=>[u]))] [] /\ Sees h W1 /\ (k <= len) /\ (NeedAll W1 ((pW fs).take k) us)) (λk=>len - k) (0) (λX q=>⟨h,(Vz),[],q _ _ _ _ ⟨rfl,by kernel_rfl⟩,Sees.refl _,Mj _,rfl⟩) ?_;rintro k a w ⟨W1,v,us,hJ,S2,hk,hus⟩; refine dV hJ ?_; clear hJ a w;refine go0 6 [] [] ?_;rcases (by omega:k < len\/k=len) with hlt | hke
 ·obtain ⟨f,hfk⟩:∃ f,fs[k]?=some f:=⟨_,Gj (by omega)⟩;obtain ⟨u,huk⟩:∃ u,vs[k]?=some u:=⟨_,Gj (by omega)⟩;have hslu:=hsl u (Ej huk);have hrow:(xK fs vs)[k]?=some (fdRow f (sL u)):=by rw [hslu]; exact yK hfk huk
  have ha:IsArgs h f.src (sL u):=by rw [hslu]; exact AllArgs.get hsrc (x:=f.src) (by rw [Oj,hfk]; rfl) huk
  have hof:=hok.each f (Ej hfk);have hnk:(pW fs)[k]?=some (needE fs f):=by unfold pW; rw [Oj,hfk]; rfl
  have hsn:=cZ _ k _ hnk;have hul:=hus.len;rw [Ck,show (pW fs).length=len from by unfold pW; rw [Ij]; exact hL] at hul
  by_cases g:f.kind=1
  ·have hne:needE fs f=[]:=by unfold needE; rw [Cj g]
   refine jV (t:=decide ((k:Int) < (len:Int))) (Jj (by omega)) ?_;refine go0 6 [] [] ?_;obtain ⟨b3,o4,rfl,-,c5⟩:=RS.row hr (hrow);refine qQ (c5.sees S2) ?_;refine gov2 26 [.ix b3 o4 len c k,.f 0 0,.own,.b 0 0,.b 0 1,.fix] [(21,.bool (f.kind != 1),.bool false)] ?_ (ho:=(Aj (by first | omega | (simp; omega)) (trivial))) (hc:=(Aj (Dj Value.bool (by simpa using g)) (trivial)));intro b6 b7 W8 S9;refine goa0 9 [.ap 1 0 (us.map (λu=>[u])) [[Vz]]] [(49,Vi (IntKind.i64.wrap ((k:Int) + 1)),Vi ((k:Int) + 1))] ?_ (ho:=(Aj (by constructor <;> (simp; omega)) (trivial))) (hc:=(Aj (jJ (by omega) (by omega)) (trivial)));intro v48 W10 S11;refine wQ [(0,.slice (some ⟨b3,o4,none⟩) len c),(13,.slice (some ⟨b3,o4,none⟩) len c),(14,Vi (len:Int)),(3,sL v48),(15,Vi ((k:Int) + 1))] [.row (sL v48) 62 1 ((us.map (λu=>[u]))++[[Vz]])] [] ?_;exact iV (k + 1) (λX q=>⟨W10,sL v48,us++[Vz],q _ _ _ _ (mY (by rw [one_snoc]; try rfl)),(S2.trans (S9.trans S11)),by omega,by rw [hsn,hne]; exact NeedAll.snoc (RS.nil _ _) (hus.sees (S9.trans S11))⟩)
  ·skip;obtain ⟨w1,w2,w3⟩:=hof.wf g
   have hne:needE fs f=(mW f.src).map (plc fs):=by unfold needE; rw [Bj g]
   have hnm:=λH q=>nmOf_any f.src (sL u) H q w1 (by omega) w3;have hnl:=Yk (namesE_len f.src) (refs_le f.src);rw [hne] at hsn;generalize mW f.src=nm at *;refine jV (t:=decide ((k:Int) < (len:Int))) (Jj (by omega)) ?_;refine go0 6 [] [] ?_;obtain ⟨b12,o13,rfl,-,c14⟩:=RS.row hr (hrow);refine qQ (c14.sees S2) ?_;refine go1 24 [.ix b12 o13 len c k,.f 0 0,.own,.b 0 0,.b 0 1,.b 0 3] [(21,.bool (f.kind != 1),.bool true)] ?_ (ho:=(Aj (by first | omega | (simp; omega)) (trivial))) (hc:=(Aj (Dj Value.bool (by simpa using g)) (trivial)));intro b15;refine kQ (λH sH=>hnm _ (ha.sees (S2.trans sH))) ?_; rintro _ W16 S17 ⟨An,cn,rfl,hnr⟩;refine go0 15 [] [] ?_;refine cV 3 1 ?_;refine yQ [0,1,1,0,1,0,1,1,0,0,1,1,0,0,1,0,1,1] [.block 2,.seq [1,1,1,0,0,1,1,0,0,1,0,1,1],.block 1,.seq [1,1,1,0,0,1,0,1,1]] (λ(j:Nat) X=>∃ (W18:Vw) (mv:Value),X W18 [(0,.slice (some ⟨b12,o13,none⟩) len c),(13,.slice (some ⟨b12,o13,none⟩) len c),(14,Vi (len:Int)),(15,Vi (k:Int)),(3,v),(28,.slice An nm.length cn),(29,Vi (nm.length:Int)),(30,Vi (j:Int)),(6,mv)] [.row mv 3 1 (oW ((nm.map (plc fs)).take j)),.box b15 [Vt f.name,Vi f.kind,Vi f.ty,Vi f.src.op,Vi f.src.k,Vi f.src.n,.string f.src.s,.string f.src.nm,sL u],.row v 62 1 (us.map (λu=>[u]))] [(b12,o13 + k * 9,[Vt f.name,Vi f.kind,Vi f.ty,Vi f.src.op,Vi f.src.k,Vi f.src.n,.string f.src.s,.string f.src.nm,sL u])] /\ Sees W16 W18 /\ (j <= nm.length)) (λj=>nm.length - j) (0) (λX q=>⟨W16,(Vz),q _ _ _ _ ⟨rfl,by kernel_rfl⟩,Sees.refl _,Mj _⟩) ?_;rintro j a w ⟨W18,mv,hJ,S19,hj⟩; refine dV hJ ?_; clear hJ a w;refine go0 6 [] [] ?_;rcases (by omega:j < nm.length\/j=nm.length) with hjl | hje
   ·obtain ⟨s,hs⟩:∃ s,nm[j]?=some s:=⟨_,Gj hjl⟩;have hsr:(yY nm)[j]?=some [Vt s]:=by show (nm.map _)[j]?=_; rw [Oj,hs]; rfl
    have hjk:(nm.map (plc fs))[j]?=some (plc fs s):=by rw [Oj,hs]; rfl
    have hjn:=cZ _ j _ hjk;refine jV (t:=decide ((j:Int) < (nm.length:Int))) (Jj (by omega)) ?_;refine go0 6 [] [] ?_;obtain ⟨b20,o21,rfl,-,c22⟩:=RS.row hnr (hsr);refine qQ (c22.sees S19) ?_;refine oV 21 [.ix b20 o21 nm.length cn j,.f 0 0,.cl 96 #[.slice (some ⟨b12,o13,none⟩) len c,.string s] (.tuple #[Vi ((plc fs s:Nat):Int),Vi (if cQ fs s < 0 then 5 else 0)]),.fix] [] ?_ (ho:=(Aj (by first | omega | (simp; omega)) (Aj (λH sH=>hFi _ s (hfs.sees (S2.trans (S17.trans (S19.trans sH))))) (trivial))));intro b23 W24 S25;refine goa0 9 [.ap 0 0 (oW ((nm.map (plc fs)).take j)) [[Vi ((plc fs s:Nat):Int)]]] [(44,Vi (IntKind.i64.wrap ((j:Int) + 1)),Vi ((j:Int) + 1))] ?_ (ho:=(Aj (by constructor <;> (simp; omega)) (trivial))) (hc:=(Aj (jJ (by omega) (by omega)) (trivial)));intro v43 W26 S27;refine wQ [(0,.slice (some ⟨b12,o13,none⟩) len c),(13,.slice (some ⟨b12,o13,none⟩) len c),(14,Vi (len:Int)),(15,Vi (k:Int)),(3,v),(28,.slice (some ⟨b20,o21,none⟩) nm.length cn),(29,Vi (nm.length:Int)),(6,sL v43),(30,Vi ((j:Int) + 1))] [.row (sL v43) 3 1 ((oW ((nm.map (plc fs)).take j))++[[Vi ((plc fs s:Nat):Int)]]),.box b15 [Vt f.name,Vi f.kind,Vi f.ty,Vi f.src.op,Vi f.src.k,Vi f.src.n,.string f.src.s,.string f.src.nm,sL u],.row v 62 1 (us.map (λu=>[u]))] [(b12,o13 + k * 9,[Vt f.name,Vi f.kind,Vi f.ty,Vi f.src.op,Vi f.src.k,Vi f.src.n,.string f.src.s,.string f.src.nm,sL u])] ?_;exact iV (j + 1) (λX q=>⟨W26,sL v43,q _ _ _ _ (mY (by rw [hjn,natRows_snoc])),(S19.trans (S25.trans S27)),by omega⟩)
   ·skip;have hta:(nm.map (plc fs)).take j=nm.map (plc fs):=by rw [hje,Lv (by rw [Ij]; omega)]
    rw [hta];have hml:(oW (nm.map (plc fs))).length=nm.length:=by simp
    refine uQ 0 (v:=mv) (e:=3) (kk:=1) (l:=oW (nm.map (plc fs))) ?_; intro Am cm hE_mv hc_mv hm_mv;rw [show (oW (nm.map (plc fs))).length=nm.length from by first | omega | (simp; done) | (simp; omega)] at hE_mv hc_mv;rw [hE_mv];refine vQ 0 (v:=.slice Am nm.length cm) (e:=3) (kk:=1) (l:=oW (nm.map (plc fs))) ?_; intro W28 S29 fm;refine tQ (t:=decide ((j:Int) < (nm.length:Int))) (Kj (by omega)) ?_;refine go0 2 [] [] ?_;refine xQ ?_;refine oV 6 [.fix] [] ?_;intro b30 W31 S32;refine goa0 9 [.ap 1 0 (us.map (λu=>[u])) [[.slice Am nm.length cm]]] [(49,Vi (IntKind.i64.wrap ((k:Int) + 1)),Vi ((k:Int) + 1))] ?_ (ho:=(Aj (by constructor <;> (simp; omega)) (trivial))) (hc:=(Aj (jJ (by omega) (by omega)) (trivial)));intro v48 W33 S34;refine wQ [(0,.slice (some ⟨b12,o13,none⟩) len c),(13,.slice (some ⟨b12,o13,none⟩) len c),(14,Vi (len:Int)),(3,sL v48),(15,Vi ((k:Int) + 1))] [.row (sL v48) 62 1 ((us.map (λu=>[u]))++[[.slice Am nm.length cm]])] [] ?_;exact iV (k + 1) (λX q=>⟨W33,sL v48,us++[.slice Am nm.length cm],q _ _ _ _ (mY (by rw [one_snoc]; try rfl)),(S2.trans (S17.trans (S19.trans (S29.trans (S32.trans S34))))),by omega,by rw [hsn]; exact NeedAll.snoc (fm.sees (S32.trans S34)) (hus.sees (S17.trans (S19.trans (S29.trans (S32.trans S34)))))⟩)
 ·skip;have hta:(pW fs).take k=pW fs:=by rw [hke,Lv (by unfold pW; rw [Ij]; omega)]
  rw [hta] at hus;have hul:=hus.len;have hrl:(us.map λu=>[u]).length=len:=by rw [Ij,hul]; unfold pW; rw [Ij]; exact hL
  refine uQ 0 (v:=v) (e:=62) (kk:=1) (l:=us.map (λu=>[u])) ?_; intro Ar cr hE_v hc_v hm_v;rw [show (us.map (λu=>[u])).length=len from by first | omega | (simp; done) | (simp; omega)] at hE_v hc_v;rw [hE_v];refine tQ (t:=decide ((k:Int) < (len:Int))) (Kj (by omega)) ?_;refine go0 2 [] [] ?_;refine xQ ?_;refine go0 9 [] [] ?_;refine wQ [(2,.slice Ar len cr)] [.row (.slice Ar len cr) 62 1 (us.map (λu=>[u]))] [] ?_;refine hQ.toJ [.slice Ar len cr] [] (λa w hJ=>?_);have fr:=hJ.j.rowOut0 (v:=.slice Ar len cr) (e:=62) (k:=1) (l:=us.map (λu=>[u])) 0 (by kernel_rfl) rfl;exact ⟨Ar,cr,us,rfl,fr,(hus.sees hJ.j.out)⟩
abbrev eY (l:List Int):List (List Value):=l.map λ(k:Int)=>[Value.int .i64 k]
theorem rk_set (l:List Int) (i:Nat) (v:Int):(eY l).set i [Vi v]=eY (l.set i v):=List.map_set.symm
theorem rk_get {l:List Int} {i:Nat} (h:i < l.length):(eY l)[i]?=some [Vi (l.getD i 0)]:=by
 show (l.map _)[i]?=_;rw [Oj,Gj h,Uk,Gj h]; rfl
theorem mostA_cons (out:List Int) (a:Int) (k:Nat) (l:List Nat):jW out a (k :: l)=if out.getD k 0 < 0 then -1 else jW out (max a (out.getD k 0 + 1)) l:=rfl
theorem mostA_bd {out:List Int} {B:Int} (hB:∀ j,out.getD j 0 <= B):∀ (l:List Nat) (a:Int),0 <= a -> jW out a l <= max a (B + 1) /\ -1 <= jW out a l
 | [],a,h=>by unfold jW; omega
 | k :: l,a,h=>by
  unfold jW
  split
  ·omega
  ·have h1:=mostA_bd hB l (max a (out.getD k 0 + 1)) (by omega)
   have:=hB k
   omega
theorem step_bd {need:List (List Nat)} {out:List Int} {B:Int} (h0:0 <= B) (hB:∀ j,-1 <= out.getD j 0 /\ out.getD j 0 <= B) (i:Nat) (j:Nat) : -1 <= (rkStep need out i).getD j 0 /\ (rkStep need out i).getD j 0 <= B + 1:=by
 have hj:=hB j;unfold rkStep
 by_cases hi:i < out.length
 ·rw [getD_set hi]
  split
  ·have h1:=mostA_bd (λj=>(hB j).2) (need.getD i []) 0 (Tq _)
   have:=hB i
   omega
  ·omega
 ·rw [List.set_eq_of_length_le (by omega)]; omega
theorem round_bd {need:List (List Nat)} {out:List Int} {B:Int} (h0:0 <= B) (hB:∀ j,-1 <= out.getD j 0 /\ out.getD j 0 <= B):∀ (i:Nat) (j:Nat),-1 <= (fY need out i).getD j 0 /\ (fY need out i).getD j 0 <= B + i
 | 0,j=>by have:=hB j; rw [fY]; omega
 | i + 1,j=>by
  have:=step_bd (need:=need) (out:=fY need out i) (B:=B + i) (by omega) (round_bd (need:=need) (out:=out) h0 hB i) i j
  rw [fY];omega
theorem ranks_bd (need:List (List Nat)):∀ (t:Nat) (j:Nat),-1 <= (wX need t).getD j 0 /\ (wX need t).getD j 0 <= ((t * need.length:Nat):Int)
 | 0,j=>by
  rw [wX,Uk,List.getElem?_replicate]
  split <;> simp
 | t + 1,j=>by
  have:=round_bd (need:=need) (B:=((t * need.length:Nat):Int)) (by omega) (ranks_bd need t) need.length j
  rw [wX,Uq];omega
theorem ranks_any (need:List (List Nat)) (A:Option Addr) (cap:Nat) (us:List Value) (h:Vw) (hr:RS h 1 (.slice A need.length cap) (us.map λu=>[u])) (hn:NeedAll h need us) (hlen:need.length <= 14) (hb:∀ l∈need,l.length <= 1000 /\ ∀ k∈l,k < need.length) :
  C0 Tryz.prog 143 #[.slice A need.length cap] h (λr h'=>∃ b,r=.slice (some ⟨b,0,none⟩) need.length need.length /\ RS h' 1 r (eY (wX need need.length))):=by
 have hul:=hn.len;have hrl:=ranks_len need;have hol:=λt i=>(round_len need (wX need t) i).trans (ranks_len need t);have hbd:∀ t,t <= 14 -> ∀ i,i <= 14 -> ∀ j,-1 <= (fY need (wX need t) i).getD j 0 /\ (fY need (wX need t) i).getD j 0 <= 1000:=λt ht i hi j=>by
  have h1:=round_bd (need:=need) (B:=((t * need.length:Nat):Int)) (by omega) (ranks_bd need t) i j;have h2:t * need.length <= 14 * 14:=Nat.mul_le_mul ht hlen;omega
 have hst:∀ t i,fY need (wX need t) (i + 1)=(fY need (wX need t) i).set i (max ((fY need (wX need t) i).getD i 0) (jW (fY need (wX need t) i) 0 (need.getD i []))):=λt i=>rfl;have hrd:∀ t,fY need (wX need t) need.length=wX need (t + 1):=λt=>rfl;have h00:wX need 0=List.replicate need.length (-1):=rfl;have hr0:∀ t,fY need (wX need t) 0=wX need t:=λt=>rfl;have hz:List.replicate need.length [Value.int .i64 0]=eY (List.replicate need.length 0):=by show _=List.map _ _; rw [List.map_replicate]
 generalize hL:need.length=n at *;refine pQ Tryz.func143 λhbx hbad Q hQ=>?_;refine go0 9 [] [] ?_;refine g_make1 (t:=62) (e:=3) (z:=Vi 0) (x:=(.tmp 11)) (by_:=8) (m:=n) (by kernel_rfl) Tryz.underlying62 (by kernel_rfl) rfl (by omega) (by omega) (by simp only [maxLen]; omega) ?_; intro bo;refine go0 12 [] [] ?_;rw [hz];refine yQ [0,1,0,1,1] [.block 0,.seq [1,1,1]] (λ(i:Nat) X=>∃ (W2:Vw) (ro:List Int),X W2 [(0,.slice A n cap),(3,Vs bo n n),(14,Vi (n:Int)),(15,Vi (i:Int))] [.row (Vs bo n n) 3 1 (eY ro)] [] /\ Sees h W2 /\ (i <= n) /\ (ro=List.replicate i (-1)++List.replicate (n - i) 0)) (λi=>n - i) (0) (λX q=>⟨h,List.replicate n 0,q _ _ _ _ ⟨rfl,by kernel_rfl⟩,Sees.refl _,Mj _,by simp⟩) ?_;rintro i a w ⟨W2,ro,hJ,S3,hi,hro⟩; refine dV hJ ?_; clear hJ a w;refine go0 6 [] [] ?_;rcases (by omega:i < n\/i=n) with hlt | hke
 ·have hol2:ro.length=n:=by rw [hro,Bk,Sv,Sv]; omega
  have hrow:=rk_get (l:=ro) (i:=i) (by omega);have hnx:ro.set i (-1)=List.replicate (i + 1) (-1)++List.replicate (n - (i + 1)) 0:=by
   rw [hro,List.set_append_right _ _ (by simp),Sv,Cw,show n - i=(n - (i + 1)) + 1 by omega,List.replicate_succ,List.set_cons_zero,List.replicate_succ',Lq]; rfl
  refine jV (t:=decide ((i:Int) < (n:Int))) (Jj (by omega)) ?_;refine go0 14 [.ix bo 0 n n i] [] ?_ (ho:=(Aj (by first | omega | (simp; omega)) (trivial)));refine g_rowset 0 i 0 (g:=bo) (m:=n) (cap:=n) (kk:=1) (e:=3) (l:=eY ro) (r:=[Vi (ro.getD i 0)]) (r':=[Vi (-1)]) (t:=3) (x:=(.tmp 20)) (y:=(.const (Vi (-1)))) (v:=Vi (-1)) (hrow) ?_;refine go0 7 [] [(21,Vi (IntKind.i64.wrap ((i:Int) + 1)),Vi ((i:Int) + 1))] ?_ (hc:=(Aj (jJ (by omega) (by omega)) (trivial)));refine wQ [(0,.slice A n cap),(3,Vs bo n n),(14,Vi (n:Int)),(15,Vi ((i:Int) + 1))] [.row (Vs bo n n) 3 1 ((eY ro).set i [Vi (-1)])] [] ?_;exact iV (i + 1) (λX q=>⟨W2,ro.set i (-1),q _ _ _ _ (mY (by rw [rk_set])),S3,by omega,hnx⟩)
 ·skip;have hro2:ro=wX need 0:=by rw [hro,h00,hke,Cw]; simp
  rw [hro2];refine tQ (t:=decide ((i:Int) < (n:Int))) (Kj (by omega)) ?_;refine go0 2 [] [] ?_;refine xQ ?_;refine go0 11 [] [] ?_;refine yQ [0,1,0,1,1,1] [.block 2,.seq [1,1,1,1]] (λ(t:Nat) X=>∃ (W4:Vw) ,X W4 [(0,.slice A n cap),(3,Vs bo n n),(23,Vi (n:Int)),(24,Vi (t:Int))] [.row (Vs bo n n) 3 1 (eY (wX need t))] [] /\ Sees W2 W4 /\ (t <= n)) (λt=>n - t) (0) (λX q=>⟨W2,q _ _ _ _ ⟨rfl,by kernel_rfl⟩,Sees.refl _,Mj _⟩) ?_;rintro t a w ⟨W4,hJ,S5,ht⟩; refine dV hJ ?_; clear hJ a w;refine go0 6 [] [] ?_;rcases (by omega:t < n\/t=n) with htl | hte
  ·refine jV (t:=decide ((t:Int) < (n:Int))) (Jj (by omega)) ?_;refine go0 12 [] [] ?_;refine yQ [0,1,0,0,1,1,0,0,1,0,1,1,1] [.block 4,.block 3,.seq [1,1,1,0,0,1,0,1,1,1]] (λ(i2:Nat) X=>∃ (W6:Vw) ,X W6 [(0,.slice A n cap),(3,Vs bo n n),(23,Vi (n:Int)),(24,Vi (t:Int)),(26,.slice A n cap),(27,Vi (n:Int)),(28,Vi (i2:Int))] [.row (Vs bo n n) 3 1 (eY (fY need (wX need t) i2))] [] /\ Sees W4 W6 /\ (i2 <= n)) (λi2=>n - i2) (0) (λX q=>⟨W4,q _ _ _ _ ⟨rfl,by kernel_rfl⟩,Sees.refl _,Mj _⟩) ?_;rintro i2 a w ⟨W6,hJ,S7,hi2⟩; refine dV hJ ?_; clear hJ a w;refine go0 6 [] [] ?_;rcases (by omega:i2 < n\/i2=n) with hil | hie
   ·have ho:=hol t i2;have hb2:=hbd t (by omega) i2 (by omega);have hsx:=hst t i2;generalize fY need (wX need t) i2=o at *;obtain ⟨l,hl⟩:∃ l,need[i2]?=some l:=⟨_,Gj (by omega)⟩;obtain ⟨u,hu⟩:∃ u,us[i2]?=some u:=⟨_,Gj (by omega)⟩;have hlg:need.getD i2 []=l:=by rw [Uk,hl]; rfl
    rw [hlg] at hsx;obtain ⟨hll,hlk⟩:=hb l (Ej hl);have hlr:=NeedAll.get hn hl hu;obtain ⟨Au,cu,rfl,-,-,-⟩:=hlr.form;have hlm:(oW l).length=l.length:=by simp
    rw [hlm] at hlr hu;have hrow:(us.map λu=>[u])[i2]?=some [.slice Au l.length cu]:=by rw [Oj,hu]; rfl
    have hrowi:=rk_get (l:=o) (i:=i2) (by omega);refine jV (t:=decide ((i2:Int) < (n:Int))) (Jj (by omega)) ?_;refine go0 7 [] [] ?_;obtain ⟨b8,o9,rfl,-,c10⟩:=RS.row hr (hrow);refine qQ (c10.sees (S3.trans (S5.trans S7))) ?_;refine go0 20 [.ix b8 o9 n cap i2,.f 0 0] [] ?_ (ho:=(Aj (by first | omega | (simp; omega)) (trivial)));refine yQ [0,1,0,1,1,0,0,1,1,0,0,1,0,0,1,1,0,0,1,0,1,1,1] [.block 6,.seq [1,1,1,0,0,1,1,0,0,1,0,0,1,1,0,0,1,0,1,1,1],.block 5,.seq [1,1,1,0,0,1,0,0,1,1,0,0,1,0,1,1,1]] (λ(j:Nat) X=>∃ (W11:Vw) (a0:Int),X W11 [(0,.slice (some ⟨b8,o9,none⟩) n cap),(3,Vs bo n n),(23,Vi (n:Int)),(24,Vi (t:Int)),(26,.slice (some ⟨b8,o9,none⟩) n cap),(27,Vi (n:Int)),(28,Vi (i2:Int)),(5,Vi (i2:Int)),(33,.slice Au l.length cu),(34,Vi (l.length:Int)),(35,Vi (j:Int)),(7,Vi a0)] [.row (Vs bo n n) 3 1 (eY o)] [(b8,o9 + i2 * 1,[.slice Au l.length cu])] /\ Sees W6 W11 /\ (j <= l.length) /\ (0 <= a0) /\ (a0 <= 2000) /\ (jW o 0 l=jW o a0 (l.drop j))) (λj=>l.length - j) (0) (λX q=>⟨W6,0,q _ _ _ _ ⟨rfl,by kernel_rfl⟩,Sees.refl _,Mj _,Tq _,by omega,rfl⟩) ?_;rintro j a w ⟨W11,a0,hJ,S12,hj,ha0,ha1,hma⟩; refine dV hJ ?_; clear hJ a w;refine go0 6 [] [] ?_;rcases (by omega:j < l.length\/j=l.length) with hjl | hje
    ·obtain ⟨k,hk⟩:∃ k,l[j]?=some k:=⟨_,Gj (by omega)⟩;have hkn:=hlk k (Ej hk);have hrj:(oW l)[j]?=some [Vi (k:Int)]:=by show (l.map _)[j]?=_; rw [Oj,hk]; rfl
     have hrk:=rk_get (l:=o) (i:=k) (by omega);have hd:l.drop j=k :: l.drop (j + 1):=by
      have hx:=Nj.1 hk;obtain ⟨h1,h2⟩:=hx;rw [<- h2]; exact Tv h1
     have hbk:=hb2 k;have hbi:=hb2 i2;rw [hd,mostA_cons] at hma
     by_cases q:o.getD k 0 < 0
     ·rw [Cj q] at hma;rw [hma] at hsx;refine jV (t:=decide ((j:Int) < (l.length:Int))) (Jj (by omega)) ?_;refine go0 6 [] [] ?_;obtain ⟨b13,o14,rfl,-,c15⟩:=RS.row hlr (hrj);refine qQ (c15.sees (S3.trans (S5.trans (S7.trans S12)))) ?_;refine go0 11 [.ix b13 o14 l.length cu j,.f 0 0,.ix bo 0 n n k] [] ?_ (ho:=(Aj (by first | omega | (simp; omega)) (Aj (by first | omega | (simp; omega)) (trivial))));refine g_rowget 0 k 0 (g:=bo) (m:=n) (cap:=n) (kk:=1) (e:=3) (l:=eY o) (r:=[Vi (o.getD k 0)]) (t:=3) (x:=(.tmp 41)) (v:=Vi (o.getD k 0)) (hrk) ?_;refine go0 3 [] [] ?_;refine jV (t:=decide ((o.getD k 0) < 0)) (Jj q) ?_;refine go0 9 [] [] ?_;refine xQ ?_;refine go0 8 [.ix bo 0 n n i2] [] ?_ (ho:=(Aj (by first | omega | (simp; omega)) (trivial)));refine g_rowget 0 i2 0 (g:=bo) (m:=n) (cap:=n) (kk:=1) (e:=3) (l:=eY o) (r:=[Vi (o.getD i2 0)]) (t:=3) (x:=(.tmp 56)) (v:=Vi (o.getD i2 0)) (hrowi) ?_;refine go0 3 [.ix bo 0 n n i2] [(59,Vi (if (-1:Int) > (o.getD i2 0) then (-1:Int) else (o.getD i2 0)),Vi (max (o.getD i2 0) (-1)))] ?_ (ho:=(Aj (by first | omega | (simp; omega)) (trivial))) (hc:=(Aj (Dj (Value.int .i64) (by split <;> omega)) (trivial)));refine g_rowset 0 i2 0 (g:=bo) (m:=n) (cap:=n) (kk:=1) (e:=3) (l:=eY o) (r:=[Vi (o.getD i2 0)]) (r':=[Vi (max (o.getD i2 0) (-1))]) (t:=3) (x:=(.tmp 60)) (y:=(.tmp 59)) (v:=Vi (max (o.getD i2 0) (-1))) (hrowi) ?_;refine go0 7 [] [(61,Vi (IntKind.i64.wrap ((i2:Int) + 1)),Vi ((i2:Int) + 1))] ?_ (hc:=(Aj (jJ (by omega) (by omega)) (trivial)));refine wQ [(0,.slice (some ⟨b8,o9,none⟩) n cap),(3,Vs bo n n),(23,Vi (n:Int)),(24,Vi (t:Int)),(26,.slice (some ⟨b8,o9,none⟩) n cap),(27,Vi (n:Int)),(28,Vi ((i2:Int) + 1))] [.row (Vs bo n n) 3 1 ((eY o).set i2 [Vi (max (o.getD i2 0) (-1))])] [] ?_;exact iV (i2 + 1) (λX q=>⟨W11,q _ _ _ _ (mY (by rw [hsx,rk_set])),(S7.trans S12),by omega⟩)
     ·skip;rw [Bj q] at hma
      refine jV (t:=decide ((j:Int) < (l.length:Int))) (Jj (by omega)) ?_;refine go0 6 [] [] ?_;obtain ⟨b16,o17,rfl,-,c18⟩:=RS.row hlr (hrj);refine qQ (c18.sees (S3.trans (S5.trans (S7.trans S12)))) ?_;refine go0 11 [.ix b16 o17 l.length cu j,.f 0 0,.ix bo 0 n n k] [] ?_ (ho:=(Aj (by first | omega | (simp; omega)) (Aj (by first | omega | (simp; omega)) (trivial))));refine g_rowget 0 k 0 (g:=bo) (m:=n) (cap:=n) (kk:=1) (e:=3) (l:=eY o) (r:=[Vi (o.getD k 0)]) (t:=3) (x:=(.tmp 41)) (v:=Vi (o.getD k 0)) (hrk) ?_;refine go0 3 [] [] ?_;refine tQ (t:=decide ((o.getD k 0) < 0)) (Kj q) ?_;refine go0 7 [.ix bo 0 n n k] [] ?_ (ho:=(Aj (by first | omega | (simp; omega)) (trivial)));refine g_rowget 0 k 0 (g:=bo) (m:=n) (cap:=n) (kk:=1) (e:=3) (l:=eY o) (r:=[Vi (o.getD k 0)]) (t:=3) (x:=(.tmp 47)) (v:=Vi (o.getD k 0)) (hrk) ?_;refine go0 10 [] [(49,Vi (IntKind.i64.wrap (o.getD k 0 + 1)),Vi (o.getD k 0 + 1)),(50,Vi (if (o.getD k 0 + 1) > a0 then (o.getD k 0 + 1) else a0),Vi (max a0 (o.getD k 0 + 1))),(51,Vi (IntKind.i64.wrap ((j:Int) + 1)),Vi ((j:Int) + 1))] ?_ (hc:=(Aj (jJ (by omega) (by omega)) (Aj (Dj (Value.int .i64) (by split <;> omega)) (Aj (jJ (by omega) (by omega)) (trivial)))));exact iV (j + 1) (λX q=>⟨W11,max a0 (o.getD k 0 + 1),q _ _ _ _ ⟨rfl,by kernel_rfl⟩,S12,by omega,by omega,by omega,hma⟩)
    ·skip;have hma2:jW o 0 l=a0:=by rw [hma,hje,List.drop_length]; rfl
     rw [hma2] at hsx;have hbi:=hb2 i2;refine tQ (t:=decide ((j:Int) < (l.length:Int))) (Kj (by omega)) ?_;refine go0 2 [] [] ?_;refine xQ ?_;refine go0 8 [.ix bo 0 n n i2] [] ?_ (ho:=(Aj (by first | omega | (simp; omega)) (trivial)));refine g_rowget 0 i2 0 (g:=bo) (m:=n) (cap:=n) (kk:=1) (e:=3) (l:=eY o) (r:=[Vi (o.getD i2 0)]) (t:=3) (x:=(.tmp 56)) (v:=Vi (o.getD i2 0)) (hrowi) ?_;refine go0 3 [.ix bo 0 n n i2] [(59,Vi (if a0 > (o.getD i2 0) then a0 else (o.getD i2 0)),Vi (max (o.getD i2 0) a0))] ?_ (ho:=(Aj (by first | omega | (simp; omega)) (trivial))) (hc:=(Aj (Dj (Value.int .i64) (by split <;> omega)) (trivial)));refine g_rowset 0 i2 0 (g:=bo) (m:=n) (cap:=n) (kk:=1) (e:=3) (l:=eY o) (r:=[Vi (o.getD i2 0)]) (r':=[Vi (max (o.getD i2 0) a0)]) (t:=3) (x:=(.tmp 60)) (y:=(.tmp 59)) (v:=Vi (max (o.getD i2 0) a0)) (hrowi) ?_;refine go0 7 [] [(61,Vi (IntKind.i64.wrap ((i2:Int) + 1)),Vi ((i2:Int) + 1))] ?_ (hc:=(Aj (jJ (by omega) (by omega)) (trivial)));refine wQ [(0,.slice (some ⟨b8,o9,none⟩) n cap),(3,Vs bo n n),(23,Vi (n:Int)),(24,Vi (t:Int)),(26,.slice (some ⟨b8,o9,none⟩) n cap),(27,Vi (n:Int)),(28,Vi ((i2:Int) + 1))] [.row (Vs bo n n) 3 1 ((eY o).set i2 [Vi (max (o.getD i2 0) a0)])] [] ?_;exact iV (i2 + 1) (λX q=>⟨W11,q _ _ _ _ (mY (by rw [hsx,rk_set])),(S7.trans S12),by omega⟩)
   ·skip;refine tQ (t:=decide ((i2:Int) < (n:Int))) (Kj (by omega)) ?_
    refine go0 2 [] [] ?_;refine xQ ?_;refine go0 7 [] [(62,Vi (IntKind.i64.wrap ((t:Int) + 1)),Vi ((t:Int) + 1))] ?_ (hc:=(Aj (jJ (by omega) (by omega)) (trivial)));refine wQ [(0,.slice A n cap),(3,Vs bo n n),(23,Vi (n:Int)),(24,Vi ((t:Int) + 1))] [.row (Vs bo n n) 3 1 (eY (fY need (wX need t) i2))] [] ?_;exact iV (t + 1) (λX q=>⟨W6,q _ _ _ _ (mY (by rw [hie,hrd])),(S5.trans S7),by omega⟩)
  ·skip;refine tQ (t:=decide ((t:Int) < (n:Int))) (Kj (by omega)) ?_
   refine go0 2 [] [] ?_;refine xQ ?_;refine go0 9 [] [] ?_;refine wQ [(2,Vs bo n n)] [.row (Vs bo n n) 3 1 (eY (wX need t))] [] ?_;refine hQ.toJ [Vs bo n n] [] (λa w hJ=>?_);have fr:=hJ.j.rowOut0 (v:=Vs bo n n) (e:=3) (k:=1) (l:=eY (wX need t)) 0 (by kernel_rfl) rfl;exact ⟨bo,rfl,by rw [hte] at fr; exact fr⟩
theorem pgRows_take:∀ (k:Nat) {l:List Pg} {us vs:List Value},us.length=l.length -> vs.length=l.length -> (mX l us vs).take k=mX (l.take k) (us.take k) (vs.take k)
 | 0,l,us,vs,_,_=>by simp [mX]
 | k + 1,[],[],[],_,_=>rfl
 | k + 1,p :: l,u :: us,v :: vs,h1,h2=>by
  show (pgRow p u v :: mX l us vs).take (k + 1)=pgRow p u v :: mX (l.take k) (us.take k) (vs.take k);rw [List.take_succ_cons,pgRows_take k (by simpa using h1) (by simpa using h2)]
theorem AllStr.take {h:Vw}:∀ (k:Nat) {l:List (List ByteArray)} {us:List Value},AllStr h l us -> AllStr h (l.take k) (us.take k)
 | 0,_,_,_=>rfl
 | k + 1,[],_,e=>by cases e; rfl
 | k + 1,x :: l,_,⟨u,r,e,k1,k2⟩=>by subst e; exact ⟨u,r.take k,rfl,k1,AllStr.take k k2⟩
theorem pgs_take {h:Vw} {A:Option Addr} {cap:Nat} {l:List Pg} (hp:IsPgs h (.slice A l.length cap) l) (k:Nat) (hk:k <= l.length):IsPgs h (.slice A k cap) (l.take k):=by
 obtain ⟨us,vs,hr,hs,ha⟩:=hp;have hu:=hs.len;have hv:=ha.len;rw [Ij] at hu hv;refine ⟨us.take k,vs.take k,?_,?_,?_⟩
 ·have:=hr.take k (by rw [nX hu hv]; omega)
  rwa [pgRows_take k hu hv] at this
 ·rw [List.map_take]; exact AllStr.take k hs
 ·rw [List.map_take]; exact AllArgs.take' k ha
structure OkGs (fs:List Fd) (l:List Pg):Prop where
 one:1 <= l.length
 few:l.length <= 6
 name:∀ p∈l,qJ p.name.data.toList
 nodup:(l.map (·.name)).Nodup
 fl:∀ p∈l,p.fields.length <= 100
 here:∀ p∈l,∀ s∈p.fields,0 <= cQ fs s
 once:(l.flatMap (·.fields)).Nodup
 skip:∀ p∈l,p.skip=zE\/(p.skip.op≠0 /\ WfE p.skip /\ (szE p.skip).1 < 1000000 /\ fitsE fs p.skip 2=0)
theorem pgCheck_any (fs:List Fd) (fv:Value) (l:List Pg) (v:Value) (h:Vw) (hok:OkGs fs l) (hp:IsPgs h v l) (hfs:IsFds h fv fs) (hfl:fs.length <= 1000):C0 Tryz.prog 91 #[v,fv] h (λr _=>r=Vi 0):=by
 obtain ⟨us,vs,A,cap,rfl,hcap,hr,hs,ha,hul,hvl⟩:=oX hp;have hlc:l.length <= cap:=by
  obtain ⟨A',c',e',h1,-,-⟩:=hr.form;rw [nX hul hvl] at h1;simp only [Tk] at e';omega
 obtain ⟨-,Af,cf,rfl,-,-,-,-,-,-⟩:=bQ hfs;have one:=hok.one;have few:=hok.few;have hat:=λi p hp=>pg_at (i:=i) (p:=p) hs ha hp;have htk:=λk hk=>pgs_take (h:=h) (A:=A) (cap:=cap) (l:=l) hp k hk;have hFi:=λH s q=>findP_any fs (.slice Af fs.length cf) s H q (by omega);have hGf:=λk H s q=>gFind_any (l.take k) (.slice A k cap) s H q (by rw [Ck]; omega) (λp hp=>by have:=hok.fl p (List.mem_of_mem_take hp); omega);generalize hL:l.length=len at *;generalize hM:fs.length=fl at *;refine pQ Tryz.func91 λhbx hbad Q hQ=>?_;refine go0 35 [] [(18,.bool (decide ((len:Int) < 1)),.bool false),(22,.bool (decide ((len:Int) > 6)),.bool false)] ?_ (hc:=(Aj (Dj Value.bool (Kj (by omega))) (Aj (Dj Value.bool (Kj (by omega))) (trivial))));refine cV 9 1 ?_;refine yQ [0,1,0,1,1,1] [.block 0,.seq [1,1,1,1]] (λ(k:Nat) X=>∃ (W1:Vw) (mv:Value),X W1 [(0,.slice A len cap),(1,.slice Af fl cf),(24,.slice A len cap),(25,Vi (len:Int)),(26,Vi (k:Int)),(5,mv)] [.row mv 9 1 (yY ((l.take k).flatMap (·.fields)))] [] /\ Sees h W1 /\ (k <= len)) (λk=>len - k) (0) (λX q=>⟨h,(Vz),q _ _ _ _ ⟨rfl,by kernel_rfl⟩,Sees.refl _,Mj _⟩) ?_;rintro k a w ⟨W1,mv,hJ,S2,hk⟩; refine dV hJ ?_; clear hJ a w;refine go0 6 [] [] ?_;rcases (by omega:k < len\/k=len) with hlt | hke
 ·obtain ⟨p,hpk⟩:∃ p,l[k]?=some p:=⟨_,Gj (by omega)⟩;have hpm:=Ej hpk;obtain ⟨Au,cu,Bu,mu,du,hrow,hrs,hxa⟩:=hat k p hpk;have hnm:=hok.name p hpm;have htp:=htk k hk;have hno:findG (l.take k) p.name = -1:=fidx_none _ _ λy hy=>tl_no λe=>by
   obtain ⟨j,hj⟩:=Fv.1 hy;rw [Gw] at hj
   split at hj
   ·rename_i hjk;have h1:(l.map (λp:Pg=>p.name))[j]?=some p.name:=by rw [Oj,hj]; simp [e]
    have h2:(l.map (λp:Pg=>p.name))[k]?=some p.name:=by rw [Oj,hpk]; rfl
    have:=(Bx (by rw [Ij]; omega) hok.nodup).1 (h1.trans h2.symm)
    omega
   ·cases hj
  have hGk:=λH q=>hGf k H p.name q;rw [hno] at hGk;have hfk:=hok.fl p hpm;have hhere:=hok.here p hpm;have hsn:(l.take (k + 1)).flatMap (λp:Pg=>p.fields)=(l.take k).flatMap (λp:Pg=>p.fields)++p.fields:=by rw [cZ l k p hpk,List.flatMap_append]; simp
  have hone:((l.take k).flatMap (λp:Pg=>p.fields)++p.fields).Nodup:=by
   rw [<- hsn];have ho:=hok.once;have e:l.flatMap (λp:Pg=>p.fields)=(l.take (k + 1)).flatMap (λp:Pg=>p.fields)++(l.drop (k + 1)).flatMap (λp:Pg=>p.fields):=by rw [<- List.flatMap_append,Mw]
   rw [e] at ho;exact (Dq.1 ho).1
  have hdl:((l.take k).flatMap (λp:Pg=>p.fields)).length <= 600:=by
   have key:∀ m:List Pg,(∀ p∈m,p.fields.length <= 100) -> (m.flatMap (λp:Pg=>p.fields)).length <= 100 * m.length:=by
    intro m
    induction m with
    | nil=>intro _; simp
    | cons q m ih =>
     intro hm;have h1:=hm q (by simp);have h2:=ih λz hz=>hm z (by simp [hz]);rw [Dv,Bk,Sk];omega
   have:=key (l.take k) λq hq=>hok.fl q (List.mem_of_mem_take hq)
   rw [Ck] at this;omega
  have hskip:=hok.skip p hpm;generalize (l.take k).flatMap (λp:Pg=>p.fields)=dn at *;refine jV (t:=decide ((k:Int) < (len:Int))) (Jj (by omega)) ?_;refine go0 7 [] [] ?_;obtain ⟨b3,o4,rfl,-,c5⟩:=RS.row hr (hrow);refine qQ (c5.sees S2) ?_;refine go1 27 [.ix b3 o4 len cap k,.f 0 0,.own,.b 0 0,.b 0 0,.cl 118 #[Vt p.name] (Vi 0)] [] ?_ (ho:=(Aj (by first | omega | (simp; omega)) (Aj (λH sH=>c_name _ _ hnm) (trivial))));intro b6;refine fV 11 0 [.pu,.pu,.v (λgh=>.slice (some ⟨b3,o4,none⟩) k cap),.pu,.ld 0 0,.v (λgh=>.tuple #[Vi 0,Vi 5]),.pu,.pu,.pu,.pu,.pu] [] (trivial) ?_ ?_
  ·intro R hT hA hmono;refine Aj (t_p hT hA (λgh=>.slice (some ⟨b3,o4,none⟩) k cap) (λgh w=>run_hi (t:=26) (e:=105) (x:=(.tmp 38)) (y:=(.tmp 39)) (A:=(some ⟨b3,o4,none⟩)) (n:=len) (cap:=cap) (k:=k) (kk:=8) (by kernel_rfl) (by kernel_rfl) (by kernel_rfl) (by omega) Tryz.underlying26 (by kernel_rfl))) ?_;refine Aj (t_v hT hA hmono (k:=147) (args:=(λgh=>#[.slice (some ⟨b3,o4,none⟩) k cap,.string p.name])) (f:=λgh=>.tuple #[Vi 0,Vi 5]) (λgh H sH fH lent=>hGk _ (htp.sees (S2.trans sH)))) ?_
   trivial
  rintro W7 S8 -;refine go0 20 [.b 0 1] [] ?_;have hd0:yY dn=yY (dn++p.fields.take 0):=by simp
  rw [hd0];refine yQ [0,1,0,1,1,1,0,0,1,1,0,0,1,0,1,1,1] [.block 2,.seq [1,1,1,1,0,0,1,1,0,0,1,0,1,1,1],.block 1,.seq [1,1,1,0,0,1,0,1,1,1]] (λ(j:Nat) X=>∃ (W9:Vw) (nv:Value),X W9 [(0,.slice (some ⟨b3,o4,none⟩) len cap),(1,.slice Af fl cf),(24,.slice (some ⟨b3,o4,none⟩) len cap),(25,Vi (len:Int)),(26,Vi (k:Int)),(7,Vp b6),(49,.slice Au p.fields.length cu),(50,Vi (p.fields.length:Int)),(51,Vi (j:Int)),(5,nv)] [.box b6 [Vt p.name,.slice Au p.fields.length cu,Vi p.skip.op,Vi p.skip.k,Vi p.skip.n,.string p.skip.s,.string p.skip.nm,.slice Bu mu du],.row nv 9 1 (yY (dn++p.fields.take j))] [(b3,o4 + k * 8,[Vt p.name,.slice Au p.fields.length cu,Vi p.skip.op,Vi p.skip.k,Vi p.skip.n,.string p.skip.s,.string p.skip.nm,.slice Bu mu du])] /\ Sees W7 W9 /\ (j <= p.fields.length)) (λj=>p.fields.length - j) (0) (λX q=>⟨W7,mv,q _ _ _ _ ⟨rfl,by kernel_rfl⟩,Sees.refl _,Mj _⟩) ?_;rintro j a w ⟨W9,nv,hJ,S10,hj⟩; refine dV hJ ?_; clear hJ a w;refine go0 6 [] [] ?_;rcases (by omega:j < p.fields.length\/j=p.fields.length) with hjl | hje
  ·obtain ⟨s,hsj⟩:∃ s,p.fields[j]?=some s:=⟨_,Gj hjl⟩;have hsr:=str_row hsj;have hse:cQ fs s=((plc fs s:Nat):Int):=by have:=hhere s (Ej hsj); unfold plc; omega
   have hFs:=λH q=>hFi H s q;rw [Bj (by omega)] at hFs;have hjn:=cZ _ j s hsj;have hnin:memS (dn++p.fields.take j) s=false:=by
    rw [Sq];intro q;have q:=memS_iff.1 q;rcases Qj.1 q with q | q
    ·exact (Dq.1 hone).2.2 s q s (Ej hsj) rfl
    ·have hd:=(Dq.1 hone).2.1;obtain ⟨i,hi⟩:=Fv.1 q;rw [Gw] at hi
     split at hi
     ·have:=(Bx (by omega) hd).1 (hi.trans hsj.symm); omega
     ·cases hi
   have hco:=λH u q=>contS_any (dn++p.fields.take j) u s H q (by rw [Bk,Ck]; omega);rw [hnin] at hco;refine jV (t:=decide ((j:Int) < (p.fields.length:Int))) (Jj (by omega)) ?_;refine go0 6 [] [] ?_;obtain ⟨b11,o12,rfl,-,c13⟩:=RS.row hrs (hsr);refine qQ (c13.sees (S2.trans (S8.trans S10))) ?_;refine go0 32 [.ix b11 o12 p.fields.length cu j,.f 0 0,.cl 96 #[.slice Af fl cf,.string s] (.tuple #[Vi ((plc fs s:Nat):Int),Vi 0])] [] ?_ (ho:=(Aj (by first | omega | (simp; omega)) (Aj (λH sH=>hFs _ (hfs.sees (S2.trans (S8.trans (S10.trans sH))))) (trivial))));refine g_callq (λa w hJ=>hco _ _ (hJ.j.rowQ (v:=nv) (e:=9) (k:=1) (l:=yY (dn++p.fields.take j)) 1 (by kernel_rfl))) ?_; intro W14 S15;refine oV 9 [.fix] [] ?_;intro b16 W17 S18;refine goa0 9 [.ap 1 0 (yY (dn++p.fields.take j)) [[Vt s]]] [(71,Vi (IntKind.i64.wrap ((j:Int) + 1)),Vi ((j:Int) + 1))] ?_ (ho:=(Aj (by constructor <;> (simp; omega)) (trivial))) (hc:=(Aj (jJ (by omega) (by omega)) (trivial)));intro v70 W19 S20;refine wQ [(0,.slice (some ⟨b3,o4,none⟩) len cap),(1,.slice Af fl cf),(24,.slice (some ⟨b3,o4,none⟩) len cap),(25,Vi (len:Int)),(26,Vi (k:Int)),(7,Vp b6),(49,.slice (some ⟨b11,o12,none⟩) p.fields.length cu),(50,Vi (p.fields.length:Int)),(5,sL v70),(51,Vi ((j:Int) + 1))] [.box b6 [Vt p.name,.slice (some ⟨b11,o12,none⟩) p.fields.length cu,Vi p.skip.op,Vi p.skip.k,Vi p.skip.n,.string p.skip.s,.string p.skip.nm,.slice Bu mu du],.row (sL v70) 9 1 ((yY (dn++p.fields.take j))++[[Vt s]])] [(b3,o4 + k * 8,[Vt p.name,.slice (some ⟨b11,o12,none⟩) p.fields.length cu,Vi p.skip.op,Vi p.skip.k,Vi p.skip.n,.string p.skip.s,.string p.skip.nm,.slice Bu mu du])] ?_;exact iV (j + 1) (λX q=>⟨W19,sL v70,q _ _ _ _ (mY (by rw [hjn, <- Lq]; simp [yY])),(S10.trans (S15.trans (S18.trans S20))),by omega⟩)
  ·skip;have hta:dn++p.fields.take j=dn++p.fields:=by rw [hje,Pk]
   rw [hta];rcases hskip with hz | ⟨z1,z2,z3,z4⟩
   ·obtain ⟨Bz,dz,ez⟩:=args_zero (by rw [hz]; rfl) hxa;obtain rfl:mu=0:=by simp only [Tk] at ez; exact ez.2.1
    have hnv:=λH=>never_yes p.name Au p.fields.length cu Bu du H;refine tQ (t:=decide ((j:Int) < (p.fields.length:Int))) (Kj (by omega)) ?_;refine go0 2 [] [] ?_;refine xQ ?_;refine go0 18 [.b 0 0,.cl 124 #[.agg #[Vt p.name,.slice Au p.fields.length cu,Vi p.skip.op,Vi p.skip.k,Vi p.skip.n,.string p.skip.s,.string p.skip.nm,.slice Bu 0 du]] (.bool true)] [(81,Vi (IntKind.i64.wrap ((k:Int) + 1)),Vi ((k:Int) + 1))] ?_ (ho:=(Aj (λH sH=>by rw [hz]; exact hnv _) (trivial))) (hc:=(Aj (jJ (by omega) (by omega)) (trivial)));refine wQ [(0,.slice (some ⟨b3,o4,none⟩) len cap),(1,.slice Af fl cf),(24,.slice (some ⟨b3,o4,none⟩) len cap),(25,Vi (len:Int)),(5,nv),(26,Vi ((k:Int) + 1))] [.row nv 9 1 (yY (dn++p.fields))] [] ?_;exact iV (k + 1) (λX q=>⟨W9,nv,q _ _ _ _ (mY (by rw [hsn]; try rfl)),(S2.trans (S8.trans S10)),by omega⟩)
   ·skip;have hnv:=λH=>never_no p.name p.skip Au p.fields.length cu Bu mu du H z1
    have hft:=λH q1 q2=>fits_any fs p.skip (.slice Bu mu du) (.slice Af fl cf) 2 H q1 z2 z3 q2;rw [z4] at hft;refine tQ (t:=decide ((j:Int) < (p.fields.length:Int))) (Kj (by omega)) ?_;refine go0 2 [] [] ?_;refine xQ ?_;refine go0 35 [.b 0 0,.cl 124 #[.agg #[Vt p.name,.slice Au p.fields.length cu,Vi p.skip.op,Vi p.skip.k,Vi p.skip.n,.string p.skip.s,.string p.skip.nm,.slice Bu mu du]] (.bool false),.b 0 2,.cl 149 #[.agg #[Vi p.skip.op,Vi p.skip.k,Vi p.skip.n,.string p.skip.s,.string p.skip.nm,.slice Bu mu du],.slice Af fl cf,Vi 2] (Vi 0)] [(81,Vi (IntKind.i64.wrap ((k:Int) + 1)),Vi ((k:Int) + 1))] ?_ (ho:=(Aj (λH sH=>hnv _) (Aj (λH sH=>hft _ (hxa.sees (S2.trans (S8.trans (S10.trans sH)))) (hfs.sees (S2.trans (S8.trans (S10.trans sH))))) (trivial)))) (hc:=(Aj (jJ (by omega) (by omega)) (trivial)));refine wQ [(0,.slice (some ⟨b3,o4,none⟩) len cap),(1,.slice Af fl cf),(24,.slice (some ⟨b3,o4,none⟩) len cap),(25,Vi (len:Int)),(5,nv),(26,Vi ((k:Int) + 1))] [.row nv 9 1 (yY (dn++p.fields))] [] ?_;exact iV (k + 1) (λX q=>⟨W9,nv,q _ _ _ _ (mY (by rw [hsn]; try rfl)),(S2.trans (S8.trans S10)),by omega⟩)
 ·skip;refine tQ (t:=decide ((k:Int) < (len:Int))) (Kj (by omega)) ?_
  refine go0 2 [] [] ?_;refine xQ ?_;refine go0 8 [] [] ?_;refine hQ.to [Vi 0] (λH sH=>?_);exact rfl
theorem ofc_any (x:Int) (h:Vw):C0 Tryz.prog 145 #[Vi x] h (λr _=>r=.bool (decide (x < 0))):=by
 refine pQ Tryz.func145 λhbx hbad Q hQ=>?_;refine go0 13 [] [] ?_;refine hQ.to [.bool (decide (x < 0))] (λH sH=>?_);exact rfl
theorem rk_row {l:List Int} {k:Nat} {x:Int} (h:l[k]?=some x):(eY l)[k]?=some [Vi x]:=by show (l.map _)[k]?=_; rw [Oj,h]; rfl
theorem idxI_any (l:List Int) (A:Option Addr) (cap:Nat) (h:Vw) (hr:RS h 1 (.slice A l.length cap) (eY l)) (hl:l.length <= 1000000) (hn:∀ x∈l,0 <= x) :
  C0 Tryz.prog 189 #[.slice A l.length cap,.func (.func 145) #[] #[]] h (λr _=>r=Vi (-1)):=by
 generalize hL:l.length=len at *;refine pQ Tryz.func189 λhbx hbad Q hQ=>?_;refine go0 14 [] [] ?_;refine yQ [0,1,0,1] [.block 0,.seq [1,1]] (λ(k:Nat) X=>∃ (W1:Vw) ,X W1 [(0,.slice A len cap),(1,.func (.func 145) #[] #[]),(7,Vi (len:Int)),(8,Vi (k:Int))] [] [] /\ Sees h W1 /\ (k <= len)) (λk=>len - k) (0) (λX q=>⟨h,q _ _ _ _ ⟨rfl,by kernel_rfl⟩,Sees.refl _,Mj _⟩) ?_;rintro k a w ⟨W1,hJ,S2,hk⟩; refine dV hJ ?_; clear hJ a w;refine go0 6 [] [] ?_;rcases (by omega:k < len\/k=len) with hlt | hke
 ·obtain ⟨x,hxk⟩:∃ x,l[k]?=some x:=⟨_,Gj (by omega)⟩;have hrow:=rk_row hxk;have hx0:=hn x (Ej hxk);have hof:=λH=>ofc_any x H;rw [show decide (x < 0)=false from Kj (by omega)] at hof;refine jV (t:=decide ((k:Int) < (len:Int))) (Jj (by omega)) ?_;refine go0 15 [] [] ?_;obtain ⟨b3,o4,rfl,-,c5⟩:=RS.row hr (hrow);refine qQ (c5.sees S2) ?_;refine go0 13 [.ix b3 o4 len cap k,.f 0 0,.cl 145 #[Vi x] (.bool false)] [(18,Vi (IntKind.i64.wrap ((k:Int) + 1)),Vi ((k:Int) + 1))] ?_ (ho:=(Aj (by first | omega | (simp; omega)) (Aj (λH sH=>hof _) (trivial)))) (hc:=(Aj (jJ (by omega) (by omega)) (trivial)));exact iV (k + 1) (λX q=>⟨W1,q _ _ _ _ ⟨rfl,by kernel_rfl⟩,S2,by omega⟩)
 ·skip;refine tQ (t:=decide ((k:Int) < (len:Int))) (Kj (by omega)) ?_
  refine go0 2 [] [] ?_;refine xQ ?_;refine go0 8 [] [] ?_;refine hQ.to [Vi (-1)] (λH sH=>?_);exact rfl
theorem cfI_any (l:List Int) (A:Option Addr) (cap:Nat) (h:Vw) (hr:RS h 1 (.slice A l.length cap) (eY l)) (hl:l.length <= 1000000) (hn:∀ x∈l,0 <= x) :
  C0 Tryz.prog 144 #[.slice A l.length cap,.func (.func 145) #[] #[]] h (λr _=>r=.bool false):=by
 have hi:=λH q=>idxI_any l A cap H q hl hn;refine pQ Tryz.func144 λhbx hbad Q hQ=>?_;refine go0 15 [.cl 189 #[.slice A l.length cap,.func (.func 145) #[] #[]] (Vi (-1))] [] ?_ (ho:=(Aj (λH sH=>hi _ (hr.sees sH)) (trivial)));refine hQ.to [.bool false] (λH sH=>?_);exact rfl
theorem mem_getD {l:List Int} {x:Int} (h:x∈l):∃ i,i < l.length /\ x=l.getD i 0:=by
 obtain ⟨i,hi,e⟩:=List.mem_iff_getElem.1 h;exact ⟨i,hi,by rw [Uk,Gj hi,e]; rfl⟩
theorem rankOf_any (fs:List Fd) (fv:Value) (h:Vw) (hok:OkFs fs) (hfs:IsFds h fv fs) (ρ:List Int) (lv:Nat -> Nat) (hρ:Ranked (pW fs) ρ lv) :
  C0 Tryz.prog 90 #[fv] h (λr h'=>∃ b,r=.tuple #[.slice (some ⟨b,0,none⟩) fs.length fs.length,.slice none 0 0,Vi 0] /\ RS h' 1 (.slice (some ⟨b,0,none⟩) fs.length fs.length) (eY ρ)):=by
 have few:=hok.few;have hck:=λH q=>check_fields fs fv H hok q;have hne:=λH q=>needs_any fs fv H hok q;have hnl:(pW fs).length=fs.length:=by unfold pW; rw [Ij]
 have hb:∀ l∈pW fs,l.length <= 1000 /\ ∀ k∈l,k < (pW fs).length:=λl hl=>by
  obtain ⟨i,hi⟩:=Fv.1 hl;have hil:=(Nj.1 hi).1;have hg:(pW fs).getD i []=l:=by rw [Uk,hi]; rfl
  refine ⟨?_,λk hk=>(hρ.low i hil k (by rw [hg]; exact hk)).1⟩;obtain ⟨f,hf,rfl⟩:=Rj.1 hl;unfold needE
  split
  ·simp
  ·rename_i g;obtain ⟨-,w2,-⟩:=(hok.each f hf).wf g
   have:=Yk (namesE_len f.src) (refs_le f.src)
   rw [Ij]; omega
 have hrk:=λA cap us H q1 q2=>ranks_any (pW fs) A cap us H q1 q2 (by omega) hb;rw [ranks_true hρ,hnl] at hrk;have hρl:ρ.length=fs.length:=hρ.len.trans hnl;have hnn:∀ x∈ρ,0 <= x:=λx hx=>by
  obtain ⟨i,hi,rfl⟩:=mem_getD hx;exact rank_nn hρ (by have:=hρ.len; omega)
 have hcf:=λb H q=>cfI_any ρ (some ⟨b,0,none⟩) fs.length H q (by omega) hnn;rw [hρl] at hcf;obtain ⟨-,A,c,rfl,-,-,-,-,-,-⟩:=bQ hfs;generalize pW fs=need at *;generalize hL:fs.length=len at *;refine pQ Tryz.func90 λhbx hbad Q hQ=>?_;refine go0 27 [.cl 141 #[.slice A len c] (Vi 0)] [] ?_ (ho:=(Aj (λH sH=>hck _ (hfs.sees sH)) (trivial)));refine kQ (λH sH=>hne _ (hfs.sees sH)) ?_; rintro _ W1 S2 ⟨An,cn,us,rfl,hrn,hna⟩;refine go0 6 [] [] ?_;refine kQ (λH sH=>hrk _ _ us _ (hrn.sees sH) (hna.sees sH)) ?_; rintro _ W3 S4 ⟨b,rfl,hro⟩;refine go0 7 [] [] ?_;refine go0 15 [.cl 144 #[Vs b len len,.func (.func 145) #[] #[]] (.bool false)] [] ?_ (ho:=(Aj (λH sH=>hcf b _ (hro.sees sH)) (trivial)));refine hQ.to [Vs b len len,Vz,Vi 0] (λH sH=>?_);exact ⟨b,rfl,(hro.sees sH)⟩
structure OkFm (f:Fm) (ρ:List Int) (lv:Nat -> Nat):Prop where
 fields:OkFs f.fields
 pages:OkGs f.fields f.pages
 rank:Ranked (pW f.fields) ρ lv
theorem shCheck_any (f:Fm) (ρ:List Int) (lv:Nat -> Nat) (A:Option Addr) (n c:Nat) (B:Option Addr) (m d:Nat) (h:Vw) (hok:OkFm f ρ lv) (hf:IsForm h (.slice A n c) (.slice B m d) f) (hn:n=f.fields.length) :
  C0 Tryz.prog 41 #[.agg #[.slice A n c,.slice B m d]] h (λr _=>r=Vi 0):=by
 have hR:=λH q=>rankOf_any f.fields (.slice A n c) H hok.fields q ρ lv hok.rank;have few:=hok.fields.few;have hP:=λH q1 q2=>pgCheck_any f.fields (.slice A n c) f.pages (.slice B m d) H hok.pages q1 q2 (by omega);rw [<- hn] at hR;refine pQ Tryz.func41 λhbx hbad Q hQ=>?_;refine go1 11 [.own,.b 0 0] [] ?_;intro b1;refine kQ (λH sH=>hR _ ((hf.sees sH)).fields) ?_; rintro _ W2 S3 ⟨b,rfl,hro⟩;refine go0 24 [.b 0 1,.b 0 0] [] ?_;refine go0 5 [.cl 91 #[.slice B m d,.slice A n c] (Vi 0)] [] ?_ (ho:=(Aj (λH sH=>hP _ ((hf.sees (S3.trans sH))).pages ((hf.sees (S3.trans sH))).fields) (trivial)));refine hQ.to [Vi 0] (λH sH=>?_);exact rfl
theorem zE_small:(szE zE).1 < 1000000:=by
 rw [zY];show 1 + (szL ([]:List Ex)).1 < 1000000;rw [szL]; decide
theorem OkFm.small {f:Fm} {ρ:List Int} {lv:Nat -> Nat} (h:OkFm f ρ lv):(∀ g∈f.fields,(szE g.src).1 < 1000000) /\ ∀ g∈f.pages,(szE g.skip).1 < 1000000:=by
 refine ⟨λg hg=>?_,λg hg=>?_⟩
 ·have hF:=h.fields.each g hg
  by_cases k:g.kind=1
  ·rw [hF.inp k]; exact zE_small
  ·have:=(hF.wf k).2.1; omega
 ·rcases h.pages.skip g hg with e | e
  ·rw [e]; exact zE_small
  ·exact e.2.2.1
theorem rdF_inp (sl sf sk nm st:ByteArray) (ty:Int) (h:Vw) (lk:Lk h) (t1:1 <= ty)
  (hC:∀ H,Lk H -> C0 Tryz.prog 117 #[Vt sl,.string ⟨#[32,61,32]⟩] H (λr _=>r=.tuple #[Vt sf,.string (mkB []),.bool false]))
  (hS:∀ H,Lk H -> C0 Tryz.prog 67 #[Vt sf,.string ⟨#[32]⟩] H (λr h'=>∃ b,r=.slice (some ⟨b,0,none⟩) 3 3 /\ Cells h' b 0 [Vt sk,.string nm,.string st]))
  (hI:∀ H,C0 Tryz.prog 121 #[.agg #[Vt ⟨#[]⟩,.string ⟨#[105,110,112,117,116]⟩,.string ⟨#[102,111,114,109,117,108,97]⟩,.string ⟨#[108,111,111,107,117,112]⟩],.string sk] H (λr _=>r=Vi 1))
  (hTy:∀ H,C0 Tryz.prog 121 #[.agg #[Vt ⟨#[]⟩,.string ⟨#[105,110,116]⟩,.string ⟨#[98,111,111,108]⟩,.string ⟨#[116,101,120,116]⟩],.string st] H (λr _=>r=Vi ty))
  (hN:∀ H,C0 Tryz.prog 118 #[Vt nm] H (λv _=>v=Vi 0)) :
  C0 Tryz.prog 70 #[Vt sl] h (λr _=>r=.tuple #[.agg #[Vt nm,Vi 1,Vi ty,Vi 0,Vi 0,Vi 0,.string ⟨#[]⟩,.string ⟨#[]⟩,.slice none 0 0],Vi 0]):=by
 refine pQ Tryz.func70 λhbx hbad Q hQ=>?_;refine go3 34 [.own,.cl 120 #[] (.tuple #[.agg #[Ve,.string ⟨#[105,110,116]⟩,.string ⟨#[98,111,111,108]⟩,.string ⟨#[116,101,120,116]⟩],.agg #[Ve,.string ⟨#[105,110,112,117,116]⟩,.string ⟨#[102,111,114,109,117,108,97]⟩,.string ⟨#[108,111,111,107,117,112]⟩]]),.own,.own,.b 1 0,.b 0 0,.cl 117 #[Vt sl,.string ⟨#[32,61,32]⟩] (.tuple #[Vt sf,.string (mkB []),.bool false])] [] ?_ (ho:=(Aj (λH sH=>words_any _) (Aj (λH sH=>hC _ (lk.sees sH)) (trivial))));intro b1 b2 b3;refine kQ (λH sH=>hS _ (lk.sees sH)) ?_; rintro _ W4 S5 ⟨b,rfl,hc⟩;refine go0 15 [] [] ?_;refine qQ (hc.sees (Sees.refl _)) ?_;refine fV 16 1 [.ld 1 0,.pu,.pu,.lf 0 0,.v (λgh=>Vi 1),.pu,.pu,.lf 0 1,.ld 2 0,.pu,.pu,.lf 0 2,.v (λgh=>Vi ty),.pu,.al 0,.st 0 0] [(14,true)] (trivial) ?_ ?_
 ·intro R hT hA hmono;refine Aj (t_v hT hA hmono (k:=121) (args:=(λgh=>#[.agg #[Ve,.string ⟨#[105,110,112,117,116]⟩,.string ⟨#[102,111,114,109,117,108,97]⟩,.string ⟨#[108,111,111,107,117,112]⟩],.string sk])) (f:=λgh=>Vi 1) (λgh H sH fH lent=>hI _)) ?_;refine Aj (t_v hT hA hmono (k:=121) (args:=(λgh=>#[.agg #[Ve,.string ⟨#[105,110,116]⟩,.string ⟨#[98,111,111,108]⟩,.string ⟨#[116,101,120,116]⟩],.string st])) (f:=λgh=>Vi ty) (λgh H sH fH lent=>hTy _)) ?_
  trivial
 rintro b6 W7 S8 -;refine go0 13 [.b 0 1,.b 0 2] [] ?_;refine gV 51 (v:=.bool (ty == 0)) (v':=.bool false) (Dj Value.bool (Lj.2 (by omega))) ?_;refine go0 34 [.b 0 1,.b 0 0,.cl 118 #[Vt nm] (Vi 0),.b 0 0,.b 3 0] [] ?_ (ho:=(Aj (λH sH=>hN _) (trivial)));refine hQ.to [.agg #[Vt nm,Vi 1,Vi ty,Vi 0,Vi 0,Vi 0,Ve,Ve,Vz],Vi 0] (λH sH=>?_) (ix:=[3]);exact rfl
theorem rdF_src (fs:List Fd) (f:Fd) (sl sf sp sk st:ByteArray) (h:Vw) (lk:Lk h) (hf:OkF fs f) (hk:f.kind≠1)
  (hC:∀ H,Lk H -> C0 Tryz.prog 117 #[Vt sl,.string ⟨#[32,61,32]⟩] H (λr _=>r=.tuple #[Vt sf,.string sp,.bool true]))
  (hS:∀ H,Lk H -> C0 Tryz.prog 67 #[Vt sf,.string ⟨#[32]⟩] H (λr h'=>∃ b,r=.slice (some ⟨b,0,none⟩) 3 3 /\ Cells h' b 0 [Vt sk,.string f.name,.string st]))
  (hI:∀ H,C0 Tryz.prog 121 #[.agg #[Vt ⟨#[]⟩,.string ⟨#[105,110,112,117,116]⟩,.string ⟨#[102,111,114,109,117,108,97]⟩,.string ⟨#[108,111,111,107,117,112]⟩],.string sk] H (λr _=>r=Vi f.kind))
  (hTy:∀ H,C0 Tryz.prog 121 #[.agg #[Vt ⟨#[]⟩,.string ⟨#[105,110,116]⟩,.string ⟨#[98,111,111,108]⟩,.string ⟨#[116,101,120,116]⟩],.string st] H (λr _=>r=Vi f.ty))
  (hY:∀ H,C0 Tryz.prog 119 #[Vt sp] H (λr h'=>∃ u,r=.tuple #[.agg #[Vi f.src.op,Vi f.src.k,Vi f.src.n,.string f.src.s,.string f.src.nm,sL u],Vi 0] /\ IsArgs h' f.src (sL u))) :
  C0 Tryz.prog 70 #[Vt sl] h (λr h'=>∃ u,r=.tuple #[.agg #[Vt f.name,Vi f.kind,Vi f.ty,Vi f.src.op,Vi f.src.k,Vi f.src.n,.string f.src.s,.string f.src.nm,sL u],Vi 0] /\ IsArgs h' f.src (sL u)):=by
 have hN:=λH=>c_name f.name H hf.name;have t1:=hf.t1;have k1:=hf.k1;have hR:=λv H q=>right_any fs f v H hf q;have hB:(f.kind != 1)=true:=Hk.2 hk;refine pQ Tryz.func70 λhbx hbad Q hQ=>?_;refine go3 34 [.own,.cl 120 #[] (.tuple #[.agg #[Ve,.string ⟨#[105,110,116]⟩,.string ⟨#[98,111,111,108]⟩,.string ⟨#[116,101,120,116]⟩],.agg #[Ve,.string ⟨#[105,110,112,117,116]⟩,.string ⟨#[102,111,114,109,117,108,97]⟩,.string ⟨#[108,111,111,107,117,112]⟩]]),.own,.own,.b 1 0,.b 0 0,.cl 117 #[Vt sl,.string ⟨#[32,61,32]⟩] (.tuple #[Vt sf,.string sp,.bool true])] [] ?_ (ho:=(Aj (λH sH=>words_any _) (Aj (λH sH=>hC _ (lk.sees sH)) (trivial))));intro b1 b2 b3;refine kQ (λH sH=>hS _ (lk.sees sH)) ?_; rintro _ W4 S5 ⟨b,rfl,hc⟩;refine go0 15 [] [] ?_;refine qQ (hc.sees (Sees.refl _)) ?_;refine fV 16 1 [.ld 1 0,.pu,.pu,.lf 0 0,.v (λgh=>Vi f.kind),.pu,.pu,.lf 0 1,.ld 2 0,.pu,.pu,.lf 0 2,.v (λgh=>Vi f.ty),.pu,.al 0,.st 0 0] [(14,true)] (trivial) ?_ ?_
 ·intro R hT hA hmono;refine Aj (t_v hT hA hmono (k:=121) (args:=(λgh=>#[.agg #[Ve,.string ⟨#[105,110,112,117,116]⟩,.string ⟨#[102,111,114,109,117,108,97]⟩,.string ⟨#[108,111,111,107,117,112]⟩],.string sk])) (f:=λgh=>Vi f.kind) (λgh H sH fH lent=>hI _)) ?_;refine Aj (t_v hT hA hmono (k:=121) (args:=(λgh=>#[.agg #[Ve,.string ⟨#[105,110,116]⟩,.string ⟨#[98,111,111,108]⟩,.string ⟨#[116,101,120,116]⟩],.string st])) (f:=λgh=>Vi f.ty) (λgh H sH fH lent=>hTy _)) ?_
  trivial
 rintro b6 W7 S8 -;refine go0 8 [.b 0 1] [] ?_;refine gV 46 (v:=.bool (f.kind == 0)) (v':=.bool false) (Dj Value.bool (Lj.2 (by omega))) ?_;refine go0 5 [.b 0 2] [] ?_;refine gV 51 (v:=.bool (f.ty == 0)) (v':=.bool false) (Dj Value.bool (Lj.2 (by omega))) ?_;refine go0 30 [.b 0 1,.b 0 0,.cl 118 #[Vt f.name] (Vi 0)] [(55,.bool (f.kind != 1),.bool true)] ?_ (ho:=(Aj (λH sH=>hN _) (trivial))) (hc:=(Aj (Dj Value.bool hB) (trivial)));refine kQ (λH sH=>hY _) ?_; rintro _ W9 S10 ⟨u,rfl,hu⟩;refine go1 26 [.own,.b 0 0,.b 0 0,.b 1 3] [] ?_;intro b11;refine fV 5 0 [.ld 1 0,.ld 1 0,.v (λgh=>Vi 0),.st 4 0,.pu] [] (trivial) ?_ ?_
 ·intro R hT hA hmono;refine Aj (t_v hT hA hmono (k:=122) (args:=(λgh=>#[.agg #[Vt f.name,Vi f.kind,Vi f.ty,Vi f.src.op,Vi f.src.k,Vi f.src.n,.string f.src.s,.string f.src.nm,sL u]])) (f:=λgh=>Vi 0) (λgh H sH fH lent=>hR _ _ (hu.sees sH))) ?_
  trivial
 rintro W12 S13 -;refine go0 2 [] [] ?_;refine hQ.to [.agg #[Vt f.name,Vi f.kind,Vi f.ty,Vi f.src.op,Vi f.src.k,Vi f.src.n,.string f.src.s,.string f.src.nm,sL u],Vi 0] (λH sH=>?_) (ix:=[4]);exact ⟨u,rfl,(hu.sees (S13.trans sH))⟩
theorem rdP_c (sl sb sn:ByteArray) (l:List ByteArray) (n:Nat) (h:Vw) (lk:Lk h) (hn:l.length=n) (n1:n <= 100) (hne:sb.toList≠(⟨#[]⟩:ByteArray).toList)
  (hC:∀ H,Lk H -> C0 Tryz.prog 117 #[Vt sl,.string ⟨#[58,32]⟩] H (λr _=>r=.tuple #[Vt sn,.string sb,.bool true]))
  (hD:∀ H,Lk H -> C0 Tryz.prog 117 #[Vt sb,.string ⟨#[59,32]⟩] H (λr _=>r=.tuple #[Vt sb,.string (mkB []),.bool false]))
  (hS:∀ H,Lk H -> C0 Tryz.prog 67 #[Vt sb,.string ⟨#[44,32]⟩] H (λr h'=>∃ b,r=.slice (some ⟨b,0,none⟩) n n /\ RS h' 1 (.slice (some ⟨b,0,none⟩) n n) (yY l)))
  (hN0:qJ sn.data.toList) (hN:∀ s∈l,qJ s.data.toList) :
  C0 Tryz.prog 69 #[Vt sl] h (λr h'=>∃ u v,r=.tuple #[.agg #[Vt sn,sL u,Vi zE.op,Vi zE.k,Vi zE.n,.string zE.s,.string zE.nm,sL v],Vi 0] /\ RS h' 1 (sL u) (yY l) /\ IsArgs h' zE (sL v)):=by
 have hN0:=λH=>c_name sn H hN0;have hN:=λs H (q:s∈l)=>c_name s H (hN s q);have hnb:(sb.toList == (⟨#[]⟩:ByteArray).toList)=false:=Lj.2 hne;refine pQ Tryz.func69 λhbx hbad Q hQ=>?_;refine go2 62 [.own,.cl 117 #[Vt sl,.string ⟨#[58,32]⟩] (.tuple #[Vt sn,.string sb,.bool true]),.cl 118 #[Vt sn] (Vi 0),.cl 117 #[Vt sb,.string ⟨#[59,32]⟩] (.tuple #[Vt sb,.string (mkB []),.bool false]),.own,.b 0 0] [] ?_ (ho:=(Aj (λH sH=>hC _ (lk.sees sH)) (Aj (λH sH=>hN0 _) (Aj (λH sH=>hD _ (lk.sees sH)) (trivial)))));intro b1 b2;refine jV (t:=sb.toList != (⟨#[]⟩:ByteArray).toList) (by rw [bne,hnb]; rfl) ?_;refine go0 2 [] [] ?_;refine kQ (λH sH=>hS _ (lk.sees sH)) ?_; rintro _ W3 S4 ⟨b,rfl,hr⟩;refine go0 14 [.b 0 1,.b 0 1] [] ?_;refine yQ [0,1,0,1,1,1,1,1,1] [.block 0,.seq [1,1,1,1,1,1,1]] (λ(k:Nat) X=>∃ (W5:Vw) ,X W5 [(2,Vp b1),(8,.string (mkB [])),(9,.bool false),(10,Vp b2),(43,Vs b n n),(44,Vi (n:Int)),(45,Vi (k:Int))] [.box b2 [Vt sn,Vs b n n,Vi 0,Vi 0,Vi 0,Ve,Ve,Vz],.box b1 [Ve,Vz,Vi 0,Vi 0,Vi 0,Ve,Ve,Vz]] [] /\ Sees W3 W5 /\ (k <= n)) (λk=>n - k) (0) (λX q=>⟨W3,q _ _ _ _ ⟨rfl,by kernel_rfl⟩,Sees.refl _,Mj _⟩) ?_;rintro k a w ⟨W5,hJ,S6,hk⟩; refine dV hJ ?_; clear hJ a w;refine go0 6 [] [] ?_;rcases (by omega:k < n\/k=n) with hlt | hke
 ·skip;obtain ⟨s,hsk⟩:∃ s,l[k]?=some s:=⟨_,Gj (by omega)⟩
  have hrow:(yY l)[k]?=some [Vt s]:=by rw [Oj,hsk]; rfl
  refine jV (t:=decide ((k:Int) < (n:Int))) (Jj (by omega)) ?_;refine go0 6 [] [] ?_;have c7:=RS.cell hr (hrow);refine qQ (c7.sees S6) ?_;refine go0 20 [.ix b 0 n n k,.f 0 0,.cl 118 #[Vt s] (Vi 0)] [(53,Vi (IntKind.i64.wrap ((k:Int) + 1)),Vi ((k:Int) + 1))] ?_ (ho:=(Aj (by first | omega | (simp; omega)) (Aj (λH sH=>hN s _ (Ej hsk)) (trivial)))) (hc:=(Aj (jJ (by omega) (by omega)) (trivial)));exact iV (k + 1) (λX q=>⟨W5,q _ _ _ _ ⟨rfl,by kernel_rfl⟩,S6,by omega⟩)
 ·skip;refine tQ (t:=decide ((k:Int) < (n:Int))) (Kj (by omega)) ?_
  refine go0 2 [] [] ?_;refine xQ ?_;refine go0 19 [.b 0 0,.b 1 0] [] ?_;refine hQ.to [.agg #[Vt sn,Vs b n n,Vi 0,Vi 0,Vi 0,Ve,Ve,Vz],Vi 0] (λH sH=>?_) (ix:=[1]);exact ⟨Vs b n n,Vz,rfl,(hr.sees (S6.trans sH)),sJ _ _ rfl⟩
structure RdF (fm:Fm) (ls:List ByteArray) (sq:Pg -> ByteArray):Prop where
 fd:∀ (k:Nat) (f:Fd),fm.fields[k]?=some f -> ∃ s,ls[k]?=some s /\ (∀ H,C0 Tryz.prog 68 #[Vt s,.string ⟨#[112,97,103,101,32]⟩] H (λr _=>r=.tuple #[Vt s,.bool false])) /\ ∀ H,Lk H -> C0 Tryz.prog 70 #[Vt s] H (λr h'=>∃ u,r=.tuple #[.agg #[Vt f.name,Vi f.kind,Vi f.ty,Vi f.src.op,Vi f.src.k,Vi f.src.n,.string f.src.s,.string f.src.nm,sL u],Vi 0] /\ IsArgs h' f.src (sL u))
 pg:∀ (k:Nat) (p:Pg),fm.pages[k]?=some p -> ∃ s,ls[fm.fields.length + k]?=some s /\ (∀ H,C0 Tryz.prog 68 #[Vt s,.string ⟨#[112,97,103,101,32]⟩] H (λr _=>r=.tuple #[Vt (sq p),.bool true])) /\ ∀ H,Lk H -> C0 Tryz.prog 69 #[Vt (sq p)] H (λr h'=>∃ u v,r=.tuple #[.agg #[Vt p.name,sL u,Vi p.skip.op,Vi p.skip.k,Vi p.skip.n,.string p.skip.s,.string p.skip.nm,sL v],Vi 0] /\ RS h' 1 (sL u) (yY p.fields) /\ IsArgs h' p.skip (sL v))
theorem read_c (fm:Fm) (ρ:List Int) (lv:Nat -> Nat) (sl:ByteArray) (ls:List ByteArray) (sq:Pg -> ByteArray) (h:Vw) (lk:Lk h) (hok:OkFm fm ρ lv) (hR:RdF fm ls sq)
  (hS:∀ H,Lk H -> C0 Tryz.prog 67 #[Vt sl,.string ⟨#[10]⟩] H (λr h'=>∃ b,r=.slice (some ⟨b,0,none⟩) (fm.fields.length + fm.pages.length) (fm.fields.length + fm.pages.length) /\ RS h' 1 (.slice (some ⟨b,0,none⟩) (fm.fields.length + fm.pages.length) (fm.fields.length + fm.pages.length)) (yY ls))) :
  C0 Tryz.prog 25 #[Vt sl] h (λr h'=>∃ u v,r=.tuple #[.agg #[sL u,sL v],Vi 0,Vi 0] /\ IsForm h' (sL u) (sL v) fm):=by
 have hfd:=hR.fd;have hpg:=hR.pg;have hCk:=λA n c B m d H q1 q2=>shCheck_any fm ρ lv A n c B m d H hok q1 q2;have few:=hok.fields.few;have fewp:=hok.pages.few;have onep:=hok.pages.one;clear hR;obtain ⟨nf,hnf⟩:∃ n,fm.fields.length=n:=⟨_,rfl⟩;obtain ⟨np,hnp⟩:∃ n,fm.pages.length=n:=⟨_,rfl⟩;rw [hnf,hnp] at hS;rw [hnf] at few hpg hCk;rw [hnp] at fewp onep;obtain ⟨nN,hNN⟩:∃ n,nf + np=n:=⟨_,rfl⟩;rw [hNN] at hS;refine pQ Tryz.func25 λhbx hbad Q hQ=>?_;refine go1 10 [.own] [] ?_;intro b1;refine kQ (λH sH=>hS _ (lk.sees sH)) ?_; rintro _ W2 S3 ⟨b,rfl,hr⟩;refine go0 11 [] [] ?_;refine tQ (t:=decide ((nN:Int) > 20)) (Kj (by omega)) ?_;refine go1 16 [.own] [] ?_;intro bo;refine cV 49 9 ?_;refine cV 105 8 ?_;refine yQ [0,1,0,1,1,1,1] [.block 0,.seq [1,1,1,1,1]] (λ(k:Nat) X=>∃ (W4:Vw) (pl:List Pg) (vf:Value) (vp:Value) (vs:List Value) (us:List Value) (ws:List Value),X W4 [(2,Vp b1),(6,Vp bo),(22,Vs b nN nN),(23,Vi (nN:Int)),(24,Vi (k:Int))] [.row vp 105 8 (mX pl us ws),.row vf 49 9 (xK (fm.fields.take k) vs),.box bo [vf,vp],.box b1 [Vz,Vz]] [] /\ Sees W2 W4 /\ (k <= nN) /\ (pl=fm.pages.take (k - nf)) /\ (AllSrc W4 (fm.fields.take k) vs) /\ (AllStr W4 (pl.map (·.fields)) us) /\ (AllArgs W4 (pl.map (·.skip)) ws)) (λk=>nN - k) (0) (λX q=>⟨W2,[],(Vz),(Vz),[],[],[],q _ _ _ _ ⟨rfl,by kernel_rfl⟩,Sees.refl _,Mj _,by rw [Nat.zero_sub]; rfl,by unfold AllSrc AllArgs; rfl,rfl,by unfold AllArgs; rfl⟩) ?_;rintro k a w ⟨W4,pl,vf,vp,vs,us,ws,hJ,S5,hk,hpe,hvs,hus,hws⟩; refine dV hJ ?_; clear hJ a w;refine go0 6 [] [] ?_;have hvl:=hvs.len;have hul:=hus.len;have hwl:=hws.len;rw [Ij] at hul hwl;have hfl:=zK hvl;have hpl:=nX hul hwl;have hpk:=Dj List.length hpe;rw [Ck,hnp] at hpk;rw [Ck] at hfl;rw [hnf] at hfl;rcases (by omega:k < nf\/(nf <= k /\ k < nN)\/k=nN) with hlt | ⟨hge,hlt⟩ | hke
 ·obtain ⟨f,hfk⟩:∃ f,fm.fields[k]?=some f:=⟨_,Gj (by omega)⟩;obtain ⟨sf,hsf,hcf,hFo⟩:=hfd k f hfk;have hrow:=str_row hsf;have hsn:=cZ _ k f hfk;have e0:k - nf=0:=by omega
  have e1:k + 1 - nf=k - nf:=by omega
  refine uQ 0 (v:=vp) (e:=105) (kk:=8) (l:=mX pl us ws) ?_; intro Ap cp hE_vp hc_vp hm_vp;rw [show (mX pl us ws).length=0 from by first | omega | (simp; done) | (simp; omega)] at hE_vp hc_vp;rw [hE_vp];refine jV (t:=decide ((k:Int) < (nN:Int))) (Jj (by omega)) ?_;refine go0 7 [] [] ?_;have c6:=RS.cell hr (hrow);refine qQ (c6.sees S5) ?_;refine go0 29 [.ix b 0 nN nN k,.f 0 0,.cl 68 #[Vt sf,.string ⟨#[112,97,103,101,32]⟩] (.tuple #[Vt sf,.bool false])] [] ?_ (ho:=(Aj (by first | omega | (simp; omega)) (Aj (λH sH=>hcf _) (trivial))));refine kQ (λH sH=>hFo _ (lk.sees (S3.trans (S5.trans sH)))) ?_; rintro _ W7 S8 ⟨u,rfl,hu⟩;refine gov2 39 [.own,.b 0 0,.b 3 1,.b 3 0,.b 0 0,.fix] [] ?_;intro b9 b10 W11 S12;refine goa0 10 [.ap 2 0 (xK (fm.fields.take k) vs) [[Vt f.name,Vi f.kind,Vi f.ty,Vi f.src.op,Vi f.src.k,Vi f.src.n,.string f.src.s,.string f.src.nm,sL u]],.b 3 0] [(77,Vi (IntKind.i64.wrap ((k:Int) + 1)),Vi ((k:Int) + 1))] ?_ (ho:=(Aj (by rw [hfl]; simp; omega) (trivial))) (hc:=(Aj (jJ (by omega) (by omega)) (trivial)));intro nf2 W13 S14;refine wQ [(2,Vp b1),(6,Vp bo),(22,Vs b nN nN),(23,Vi (nN:Int)),(24,Vi ((k:Int) + 1))] [.row (.slice Ap 0 cp) 105 8 (mX pl us ws),.row (sL nf2) 49 9 ((xK (fm.fields.take k) vs)++[[Vt f.name,Vi f.kind,Vi f.ty,Vi f.src.op,Vi f.src.k,Vi f.src.n,.string f.src.s,.string f.src.nm,sL u]]),.box bo [sL nf2,.slice Ap 0 cp],.box b1 [Vz,Vz]] [] ?_;exact iV (k + 1) (λX q=>⟨W13,pl,sL nf2,.slice Ap 0 cp,vs++[sL u],us,ws,q _ _ _ _ (mY (by rw [hsn,aQ hvl]; try rfl)),(S5.trans (S8.trans (S12.trans S14))),by omega,by rw [e1]; exact hpe,by rw [hsn]; exact AllSrc.snoc (hvs.sees (S8.trans (S12.trans S14))) (hu.sees (S12.trans S14)),(hus.sees (S8.trans (S12.trans S14))),(hws.sees (S8.trans (S12.trans S14)))⟩)
 ·skip;obtain ⟨p,hpg0⟩:∃ p,fm.pages[k - nf]?=some p:=⟨_,Gj (by omega)⟩
  obtain ⟨sp,hsp,hcp,hPo⟩:=hpg (k - nf) p hpg0;rw [show nf + (k - nf)=k by omega] at hsp;have hrow:=str_row hsp;have hsn:=cZ _ (k - nf) p hpg0;have e1:k + 1 - nf=k - nf + 1:=by omega
  have e2:fm.fields.take (k + 1)=fm.fields.take k:=by rw [Lv (by omega),Lv (by omega)]
  generalize sq p=sqp at *;refine jV (t:=decide ((k:Int) < (nN:Int))) (Jj (by omega)) ?_;refine go0 7 [] [] ?_;have c15:=RS.cell hr (hrow);refine qQ (c15.sees S5) ?_;refine go0 27 [.ix b 0 nN nN k,.f 0 0,.cl 68 #[Vt sp,.string ⟨#[112,97,103,101,32]⟩] (.tuple #[Vt sqp,.bool true])] [] ?_ (ho:=(Aj (by first | omega | (simp; omega)) (Aj (λH sH=>hcp _) (trivial))));refine kQ (λH sH=>hPo _ (lk.sees (S3.trans (S5.trans sH)))) ?_; rintro _ W16 S17 ⟨u,v,rfl,hu,hv⟩;refine gov2 24 [.own,.b 0 0,.b 3 1,.b 0 0,.fix] [] ?_;intro b18 b19 W20 S21;refine goa0 13 [.ap 1 0 (mX pl us ws) [[Vt p.name,sL u,Vi p.skip.op,Vi p.skip.k,Vi p.skip.n,.string p.skip.s,.string p.skip.nm,sL v]],.b 3 1] [(77,Vi (IntKind.i64.wrap ((k:Int) + 1)),Vi ((k:Int) + 1))] ?_ (ho:=(Aj (by rw [hpl]; simp; omega) (trivial))) (hc:=(Aj (jJ (by omega) (by omega)) (trivial)));intro np2 W22 S23;refine wQ [(2,Vp b1),(6,Vp bo),(22,Vs b nN nN),(23,Vi (nN:Int)),(24,Vi ((k:Int) + 1))] [.row (sL np2) 105 8 ((mX pl us ws)++[[Vt p.name,sL u,Vi p.skip.op,Vi p.skip.k,Vi p.skip.n,.string p.skip.s,.string p.skip.nm,sL v]]),.row vf 49 9 (xK (fm.fields.take k) vs),.box bo [vf,sL np2],.box b1 [Vz,Vz]] [] ?_;exact iV (k + 1) (λX q=>⟨W22,pl++[p],vf,sL np2,vs,us++[sL u],ws++[sL v],q _ _ _ _ (mY (by rw [pgRows_snoc hul hwl,e2]; try rfl)),(S5.trans (S17.trans (S21.trans S23))),by omega,by rw [e1,hsn,hpe],by rw [e2]; exact (hvs.sees (S17.trans (S21.trans S23))),by rw [Mk]; exact AllStr.snoc (hu.sees (S21.trans S23)) (hus.sees (S17.trans (S21.trans S23))),by rw [Mk]; exact AllArgs.snoc (hv.sees (S21.trans S23)) (hws.sees (S17.trans (S21.trans S23)))⟩)
 ·skip;have et:fm.fields.take k=fm.fields:=Lv (by omega)
  have ep:fm.pages.take (k - nf)=fm.pages:=Lv (by omega);rw [et] at hvs hfl ⊢;rw [ep] at hpe;subst hpe;refine uQ 1 (v:=vf) (e:=49) (kk:=9) (l:=xK fm.fields vs) ?_; intro Af cf hE_vf hc_vf hm_vf;rw [show (xK fm.fields vs).length=nf from by first | omega | (simp; done) | (simp; omega)] at hE_vf hc_vf;rw [hE_vf];refine uQ 0 (v:=vp) (e:=105) (kk:=8) (l:=mX fm.pages us ws) ?_; intro Ap cp hE_vp hc_vp hm_vp;rw [show (mX fm.pages us ws).length=np from by first | omega | (simp; done) | (simp; omega)] at hE_vp hc_vp;rw [hE_vp];refine tQ (t:=decide ((k:Int) < (nN:Int))) (Kj (by omega)) ?_;refine go0 2 [] [] ?_;refine xQ ?_;refine go0 6 [.b 2 0] [] ?_;refine vQ 0 (v:=.slice Ap np cp) (e:=105) (kk:=8) (l:=mX fm.pages us ws) ?_; intro W24 S25 fP;refine vQ 0 (v:=.slice Af nf cf) (e:=49) (kk:=9) (l:=xK fm.fields vs) ?_; intro W26 S27 fF;refine go0 22 [.cl 41 #[.agg #[.slice Af nf cf,.slice Ap np cp]] (Vi 0),.b 0 0,.b 1 0] [] ?_ (ho:=(Aj (λH sH=>hCk _ _ _ _ _ _ _ ⟨⟨vs,(fF.sees sH),(hvs.sees (S25.trans (S27.trans sH)))⟩,us,ws,(fP.sees (S27.trans sH)),(hus.sees (S25.trans (S27.trans sH))),(hws.sees (S25.trans (S27.trans sH)))⟩ rfl) (trivial)));refine hQ.to [.agg #[.slice Af nf cf,.slice Ap np cp],Vi 0,Vi 0] (λH sH=>?_) (ix:=[1]);exact ⟨.slice Af nf cf,.slice Ap np cp,rfl,⟨vs,(fF.sees sH),(hvs.sees (S25.trans (S27.trans sH)))⟩,us,ws,(fP.sees (S27.trans sH)),(hus.sees (S25.trans (S27.trans sH))),(hws.sees (S25.trans (S27.trans sH)))⟩
def rhoF (need:List (List Nat)):Nat -> Nat -> Int
 | 0,_=>0
 | t + 1,i=>(need.getD i []).foldl (λa k=>max a (rhoF need t k + 1)) 0
theorem foldl_same {f g:Int -> Nat -> Int}:∀ (l:List Nat) (a:Int),(∀ a,∀ k∈l,f a k=g a k) -> l.foldl f a=l.foldl g a
 | [],a,h=>rfl
 | k :: l,a,h=>by
  rw [Kv,Kv,h a k (by simp)];exact foldl_same l _ λa k' hk'=>h a k' (by simp [hk'])
theorem rho_stable {need:List (List Nat)} {lv:Nat -> Nat} (low:∀ i,i < need.length -> ∀ k∈need.getD i [],k < need.length /\ lv k < lv i):∀ t s i,i < need.length -> lv i < t -> lv i < s -> rhoF need t i=rhoF need s i
 | 0,s,i,_,h,_=>absurd h (Mv _)
 | t + 1,0,i,_,_,h=>absurd h (Mv _)
 | t + 1,s + 1,i,hi,h1,h2=>by
  unfold rhoF;refine foldl_same _ _ λa k hk=>?_;obtain ⟨k1,k2⟩:=low i hi k hk;rw [rho_stable low t s k k1 (by omega) (by omega)]
def rhoL (need:List (List Nat)):List Int:=(List.range need.length).map (rhoF need need.length)
theorem rho_get {need:List (List Nat)} {i:Nat} (h:i < need.length):(rhoL need).getD i 0=rhoF need need.length i:=by
 unfold rhoL;rw [Uk,Oj,List.getElem?_range h]; rfl
theorem ranked_ex {need:List (List Nat)} {lv:Nat -> Nat} (low:∀ i,i < need.length -> ∀ k∈need.getD i [],k < need.length /\ lv k < lv i) (few:∀ i,i < need.length -> lv i < need.length):Ranked need (rhoL need) lv:=by
 refine ⟨by unfold rhoL; rw [Ij,List.length_range],λi hi=>?_,low,few⟩;rw [rho_get hi];obtain ⟨m,hm⟩:∃ m,need.length=m + 1:=⟨need.length - 1,by omega⟩;have hf:=few i hi;show rhoF need need.length i=_;have e:rhoF need need.length i=(need.getD i []).foldl (λa k=>max a (rhoF need m k + 1)) 0:=by rw [hm]; rfl
 rw [e];refine foldl_same _ _ λa k hk=>?_;obtain ⟨k1,k2⟩:=low i hi k hk;rw [rho_get k1,rho_stable low m need.length k k1 (by omega) (by omega)]
theorem refs_zE:yX zE=[]:=by
 rw [zX,Bj (show ¬ zE.op=2 by decide)];show []++aY []=[];simp [aY]
theorem src_refs {l:List RawD} {k:Nat} {s:ByteArray} (h:s∈yX (srcE l (fJ l k).1 (aJ l (fJ l k).2) (bJ l (fJ l k).2)).1):∃ j,j < k /\ s=fname j:=by
 have key:(∃ f∈(fJ l k).1,s=f.name) -> ∃ j,j < k /\ s=fname j:=λ⟨f,hf,e⟩=>by
  obtain ⟨i,h1,h2,-⟩:=fldT_each l k f hf;exact ⟨i,h1,by rw [e,h2]⟩
 unfold srcE at h
 split at h
 ·exact key (refs_gen l _ _ _ s h)
 ·split at h
  ·exact key (refs_gen l _ _ _ s h)
  ·simp only [refs_zE] at h; cases h
theorem fldT_get (l:List RawD):∀ k j,j < k -> ∃ f,(fJ l k).1[j]?=some f /\ f.name=fname j /\ ∀ s∈yX f.src,∃ j',j' < j /\ s=fname j'
 | 0,j,h=>absurd h (Mv _)
 | k + 1,j,h=>by
  have hl:=fQ l k;show ∃ f,((fJ l k).1++[_])[j]?=some f /\ _
  by_cases e:j=k
  ·subst e;refine ⟨_,by rw [Tw (by omega),hl,Cw]; rfl,rfl,λs hs=>src_refs hs⟩
  ·rw [Sx (by omega)];exact fldT_get l k j (by omega)
def lvF (l:List RawD) (i:Nat):Nat:=if cJ (aJ l 0).k 2=0 then iJ l - 1 - i else i
theorem form_get (l:List RawD) {i:Nat} (hi:i < iJ l):∃ f,(gQ l).fields[i]?=some f /\ f.name=fname (lvF l i) /\ ∀ s∈yX f.src,∃ j',j' < lvF l i /\ s=fname j':=by
 show ∃ f,(formF l)[i]?=some f /\ _;have hl:=fQ l (iJ l);unfold formF lvF
 split
 ·rw [List.getElem?_reverse (by omega),hl];exact fldT_get l (iJ l) _ (by omega)
 ·exact fldT_get l (iJ l) i hi
theorem lvF_lt (l:List RawD) {i:Nat} (hi:i < iJ l):lvF l i < iJ l:=by unfold lvF; split <;> omega
theorem lvF_sur (l:List RawD) {j:Nat} (hj:j < iJ l):∃ i,i < iJ l /\ lvF l i=j:=by
 unfold lvF
 split
 ·exact ⟨iJ l - 1 - j,by omega,by omega⟩
 ·exact ⟨j,hj,rfl⟩
theorem form_low (l:List RawD):∀ i,i < (pW (gQ l).fields).length -> ∀ k∈(pW (gQ l).fields).getD i [],k < (pW (gQ l).fields).length /\ lvF l k < lvF l i:=by
 have hn:(pW (gQ l).fields).length=iJ l:=by unfold pW; rw [Ij,form_len]
 rw [hn];intro i hi k hk;obtain ⟨f,hf,hname,hrefs⟩:=form_get l hi;have hg:(pW (gQ l).fields).getD i []=needE (gQ l).fields f:=by
  unfold pW;rw [Uk,Oj,hf]; rfl
 rw [hg] at hk;unfold needE at hk
 split at hk
 ·cases hk
 ·obtain ⟨s,hs,rfl⟩:=Rj.1 hk;obtain ⟨j,hj,rfl⟩:=hrefs s (mem_namesE.1 hs);obtain ⟨i',hi',e⟩:=lvF_sur l (j:=j) (by have:=lvF_lt l hi; omega);obtain ⟨g,hgi,hgn,-⟩:=form_get l hi';have hfd:=dQ (form_nodup l) hgi;rw [hgn,e] at hfd;have hp:plc (gQ l).fields (fname j)=i':=by unfold plc; rw [hfd]; rfl
  rw [hp];exact ⟨hi',by omega⟩
theorem form_ranked (l:List RawD):Ranked (pW (gQ l).fields) (rhoL (pW (gQ l).fields)) (lvF l) :=
 ranked_ex (form_low l) λi hi=>by
  have hn:(pW (gQ l).fields).length=iJ l:=by unfold pW; rw [Ij,form_len]
  rw [hn] at hi ⊢;exact lvF_lt l hi
theorem mem_pgNames {fs:List Fd} {n k:Nat} {s:ByteArray}:s∈lX fs n k↔∃ (i:Nat) (f:Fd),fs[i]?=some f /\ i % (n + 1)=k /\ f.name=s:=by
 unfold lX;rw [Rj]
 constructor
 ·rintro ⟨⟨f,i⟩,h,rfl⟩;obtain ⟨h1,h2⟩:=Jq.1 h;exact ⟨i,f,Jw.1 h1,Xj.1 h2,rfl⟩
 ·rintro ⟨i,f,h1,h2,rfl⟩;exact ⟨(f,i),Jq.2 ⟨Jw.2 h1,Xj.2 h2⟩,rfl⟩
theorem pgNames_nodup {fs:List Fd} {n k:Nat} (h:(fs.map (λf:Fd=>f.name)).Nodup):(lX fs n k).Nodup:=by
 unfold lX;have e:fs.zipIdx.map (λp=>p.1.name)=fs.map (λf:Fd=>f.name):=by
  have:fs.zipIdx.map (λp=>p.1)=fs:=List.zipIdx_map_fst 0 fs
  calc fs.zipIdx.map (λp=>p.1.name)=(fs.zipIdx.map (λp=>p.1)).map (λf:Fd=>f.name):=by rw [Jv]; rfl
   _=_:=by rw [this]
 refine List.Sublist.nodup ?_ (e ▸ h);exact List.Sublist.map _ List.filter_sublist
theorem pgT_once {l:List RawD} {fs:List Fd} {n n0:Nat} (hd:(fs.map (λf:Fd=>f.name)).Nodup):∀ k,((mJ l fs n n0 k).1.flatMap (λp:Pg=>p.fields)).Nodup /\ ∀ s∈(mJ l fs n n0 k).1.flatMap (λp:Pg=>p.fields),∃ (i:Nat) (f:Fd),fs[i]?=some f /\ i % (n + 1) < k /\ f.name=s
 | 0=>⟨List.nodup_nil,λs hs=>by cases hs⟩
 | k + 1=>by
  obtain ⟨h1,h2⟩:=pgT_once (l:=l) (n:=n) (n0:=n0) hd k;have e:(mJ l fs n n0 (k + 1)).1.flatMap (λp:Pg=>p.fields)=(mJ l fs n n0 k).1.flatMap (λp:Pg=>p.fields)++lX fs n k:=by
   show ((mJ l fs n n0 k).1++[_]).flatMap _=_;rw [List.flatMap_append]; simp
  rw [e];refine ⟨Dq.2 ⟨h1,pgNames_nodup hd,λa ha b hb q=>?_⟩,λs hs=>?_⟩
  ·obtain ⟨i,f,f1,f2,f3⟩:=h2 a ha;obtain ⟨j,g,g1,g2,g3⟩:=mem_pgNames.1 hb;have q1:(fs.map (λf:Fd=>f.name))[i]?=some a:=by rw [Oj,f1]; simp [f3]
   have q2:(fs.map (λf:Fd=>f.name))[j]?=some a:=by rw [Oj,g1]; simp [g3,q]
   have:=(Bx (Nj.1 q1).1 hd).1 (q1.trans q2.symm)
   subst this;omega
  ·rcases Qj.1 hs with hs | hs
   ·obtain ⟨i,f,f1,f2,f3⟩:=h2 s hs;exact ⟨i,f,f1,by omega,f3⟩
   ·obtain ⟨j,g,g1,g2,g3⟩:=mem_pgNames.1 hs;exact ⟨j,g,g1,by omega,g3⟩
theorem pgT_names (l:List RawD) (fs:List Fd) (n n0:Nat):∀ k,(mJ l fs n n0 k).1.map (λp:Pg=>p.name)=(List.range k).map kX
 | 0=>rfl
 | k + 1=>by
  show ((mJ l fs n n0 k).1++[_]).map (λp:Pg=>p.name)=_;rw [Mk,pgT_names l fs n n0 k,List.range_succ,Mk]; rfl
theorem pgT_each (l:List RawD) (fs:List Fd) (n n0:Nat):∀ k,∀ p∈(mJ l fs n n0 k).1,∃ i m r,i < k /\ p=⟨kX i,lX fs n i,(skipE l fs r m).1⟩
 | 0,p,h=>by cases h
 | k + 1,p,h=>by
  have h:p∈(mJ l fs n n0 k).1++[_]:=h;rcases Qj.1 h with h | h
  ·obtain ⟨i,m,r,h1,h2⟩:=pgT_each l fs n n0 k p h;exact ⟨i,m,r,by omega,h2⟩
  ·exact ⟨k,_,_,by omega,Pj.1 h⟩
theorem pgName_ok {k:Nat} (h:k < 5):qJ (kX k).data.toList:=by
 match k,h with
 | 0,_=>exact ⟨by decide,by decide,⟨_,rfl,by decide⟩,by decide,by decide⟩
 | 1,_=>exact ⟨by decide,by decide,⟨_,rfl,by decide⟩,by decide,by decide⟩
 | 2,_=>exact ⟨by decide,by decide,⟨_,rfl,by decide⟩,by decide,by decide⟩
 | 3,_=>exact ⟨by decide,by decide,⟨_,rfl,by decide⟩,by decide,by decide⟩
 | 4,_=>exact ⟨by decide,by decide,⟨_,rfl,by decide⟩,by decide,by decide⟩
theorem pgName_inj {i j:Nat} (hi:i < 5) (hj:j < 5) (h:kX i=kX j):i=j:=by
 have key:∀ i,i < 5 -> ∀ j,j < 5 -> (kX i).data=(kX j).data -> i=j:=by decide
 exact key i hi j hj (Dj ByteArray.data h)
theorem form_okGs (l:List RawD):OkGs (gQ l).fields (gQ l).pages:=by
 have hn:=lW l;have hp:=nPages_le l;have hpl:=form_pages l;have hT:((fJ l (iJ l)).1.map (λf:Fd=>f.name)).Nodup:=by
  rw [fldT_names];refine Ew.2 (Dx.imp_of_mem ?_);intro a b ha hb hab e;exact hab (fname_inj (by have:=Jk.1 ha; omega) (by have:=Jk.1 hb; omega) e)
 have he:∀ p∈(gQ l).pages,∃ i m r,i < eJ l /\ p=⟨kX i,lX (fJ l (iJ l)).1 (eJ l) i,(skipE l (fJ l (iJ l)).1 r m).1⟩:=pgT_each _ _ _ _ _;have hok:=form_okFs l _ (form_nodup l) (λf=>Iff.rfl) (by rw [form_len]; omega);refine ⟨by omega,by omega,λp h=>?_,?_,λp h=>?_,λp h s hs=>?_,(pgT_once hT _).1,λp h=>?_⟩
 ·obtain ⟨i,m,r,hi,rfl⟩:=he p h;exact pgName_ok (by omega)
 ·show ((mJ l _ _ _ _).1.map (λp:Pg=>p.name)).Nodup;rw [pgT_names];refine Ew.2 (Dx.imp_of_mem ?_);intro a b ha hb hab e;exact hab (pgName_inj (by have:=Jk.1 ha; omega) (by have:=Jk.1 hb; omega) e)
 ·obtain ⟨i,m,r,hi,rfl⟩:=he p h
  have:=pgNames_len (fJ l (iJ l)).1 (eJ l) i
  rw [fQ] at this;show (lX _ _ _).length <= 100;omega
 ·obtain ⟨i,m,r,hi,rfl⟩:=he p h;obtain ⟨j,f,f1,-,rfl⟩:=mem_pgNames.1 hs;obtain ⟨k,hk⟩:=Fv.1 (form_mem.2 (Ej f1));rw [dQ (form_nodup l) hk];omega
 ·obtain ⟨i,m,r,hi,rfl⟩:=he p h;show (skipE l _ r m).1=zE\/_;unfold skipE
  split
  ·right
   have hnm:∀ f∈(fJ l (iJ l)).1,qJ f.name.data.toList:=λf hf=>(hok.each f (form_mem.2 hf)).name;obtain ⟨w1,w2,w3⟩:=genE_ok l _ hnm 1 2 m (by omega) (by omega);have ht:=ty_gen (fs:=(fJ l (iJ l)).1) (g:=tyF (gQ l).fields) (λf hf=>tyF_mem (form_nodup l) f (form_mem.2 hf)) l 1 2 m (by omega) (by omega);show (gJ l _ 1 2 m).1.op≠0 /\ _;generalize (gJ l (fJ l (iJ l)).1 1 2 m).1=x at *;have w2:(szE x).1 <= 4:=w2;refine ⟨?_,w1,by show (szE x).1 < 1000000; omega,?_⟩
   ·rcases w1.top with t | t | t <;> omega
   ·have cx:chkE x=0:=by unfold chkE; rw [Bj (by omega),Bj (by omega)]
    have ho:ofE (gQ l).fields x=(2,0):=by unfold ofE; rw [Cj cx,ht]
    show fitsE (gQ l).fields x 2=0;unfold fitsE;rw [ho]; rfl
  ·left; rfl
end Go.Proofs.YthgcgciceejicaaGreatDoor
