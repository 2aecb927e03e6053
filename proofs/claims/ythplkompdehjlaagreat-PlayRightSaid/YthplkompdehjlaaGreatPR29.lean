/-
  names.Of: the fields that a formula asks for, each once, rising. (Imports the seat's Iter text: wip/iter.sh.)
-/
import Derived.Test.YthplkompdehjlaaGreatPR24
import Derived.Test.YthplkompdehjlaaGreatPR28
set_option maxHeartbeats 4000000
set_option maxRecDepth 100000
namespace Go.Proofs.YthplkompdehjlaaGreat
open Go.RowKit Go.Shelf Go.Maps Go.Sort
attribute [local go_sem] Oper.semAt_some
theorem key_iff {s:ByteArray}:∀ {l:List (ByteArray × Value)},s∈l.map (·.1)↔sget s l≠none
 | []=>by simp [sget]
 | (k,v) :: l=>by
  rw [Ck,Tj,key_iff (l:=l)];rw [show sget s ((k,v) :: l)=if s == k then some v else sget s l from rfl]
  by_cases e:(s == k)=true
  ·rw [Cj e];exact ⟨λ_=>Option.some_ne_none v,λ_=>.inl ((Vk s k).1 e)⟩
  ·rw [Bj e];exact ⟨λh=>h.elim (λq=>absurd ((Vk s k).2 q) e) (λq=>q),.inr⟩
def MetAt (W:World) (M:Nat) (pre:List ByteArray):Prop:=∃ l,W.heap[M]?=some (mW (lZ l)) /\ (∀ s,s∈l.map (·.1)↔s∈pre) /\ (l.map (·.1)).Nodup /\ ∀ p∈l,p.2=.bool true
theorem met_nil {W:World} {M:Nat} (h:W.heap[M]?=some (mW (lZ []))):MetAt W M []:=⟨[],h,λs=>by simp,List.nodup_nil,λp hp=>by cases hp⟩
theorem met_put {P:Program} {W:World} {M:Nat} {pre:List ByteArray} {t kt et:TypeId} (s:ByteArray) (h:MetAt W M pre) (ht:P.underlying t=some (.map kt et)) (htd:P.underlying kt=some .string) :
  ∃ o W',(Instr.mapUpdate t (.map (some M)) (Vt s) (.bool true)).run P W=.ok () W' /\ W'={ W with heap:=W.heap.setIfInBounds M o } /\ MetAt W' M (pre++[s]):=by
 obtain ⟨l,h1,h2,h3,h4⟩:=h;obtain ⟨l',hu,hg,hn,hm⟩:=run_update_str (P:=P) (s:=s) (v:=.bool true) h1 ht htd;refine ⟨_,_,hu,rfl,l',(Go.MapKept.heap_set h1).1,λx=>?_,hn h3,λp hp=>?_⟩
 ·rw [key_iff,hg x,Rj,Pj, <- h2 x,key_iff]
  by_cases e:x=s
  ·rw [Cj e]; simp [e]
  ·rw [Bj e]; simp [e]
 ·rcases hm p hp with q | q
  ·exact h4 p q
  ·rw [q]
theorem nodup_le {α:Type}:∀ {l m:List α},l.Nodup -> (∀ x∈l,x∈m) -> l.length <= m.length
 | [],m,_,_=>Kj _
 | x :: l,m,hn,hs=>by
  obtain ⟨s,t,rfl⟩:=List.append_of_mem (hs x (by simp));have hx:=Kq.1 hn
  have:=nodup_le (m:=s++t) hx.2 (λy hy=>by
   rcases Rj.1 (hs y (by simp [hy])) with q | q
   ·exact Gk _ q
   ·rcases Tj.1 q with rfl | q
    ·exact absurd hy hx.1
    ·exact Vj _ q)
  simp only [Bk,Tk] at this ⊢;omega
theorem refs_ok {s:ByteArray} {x:Ex} (hw:WfE x) (hs:s∈nY x):qJ s.data.toList:=by
 revert hw hs
 refine ex_ind (p:=λx=>WfE x -> s∈nY x -> qJ s.data.toList) (λx ih hw hs=>?_) x;rw [oY,Rj] at hs;rcases hs with hs | hs
 ·by_cases h2:x.op=2
  ·rw [Cj h2] at hs;rw [Pj.1 hs]; exact (ref_shape hw h2).2
  ·rw [Bj h2] at hs; cases hs
 ·obtain ⟨y,hy,hys⟩:=mem_refsL.1 hs;exact ih y hy (hw.list.get hy) hys
theorem refs_len (x:Ex):(nY x).length <= (szE x).1:=by
 refine ex_ind (p:=λx=>(nY x).length <= (szE x).1) (λx ih=>?_) x;rw [oY,nZ,Bk];have hL:∀ l:List Ex,(∀ y∈l,(nY y).length <= (szE y).1) -> (pY l).length <= (szL l).1:=by
  intro l
  induction l with
  | nil=>intro _; simp [pY]
  | cons y l ih2 =>
   intro h;have h1:=h y (by simp);have h2:=ih2 (λz hz=>h z (by simp [hz]));rw [pY,szL,Bk];simp only;omega
 have:=hL x.args ih
 simp only
 split <;> simp <;> omega
theorem of_in (x:Ex) (v:Value) (w:World) (bad:List Nat) (hx:IsArgs ⟨w,bad⟩ x v) (hw:WfE x) (hsz:(szE x).1 < 1000000) (hcx:chkE x=0) :
  CallsIn Fence.wide 6 Tryz.prog 138 #[.agg #[Vi x.op,Vi x.k,Vi x.n,.string x.s,.string x.nm,v]] w (λe W'=>∃ (r:Value) (ss:List (List UInt8)) (D0:DataW Unit),e=.returned (.tuple #[r,Vi 0]) /\ ss.Perm (strKeys D0) /\ (strKeys D0).Nodup /\ (∀ s:ByteArray,s.data.toList∈strKeys D0↔s∈nY x) /\ W'.ownsRow w.heap.size 9 1 r ss.length ((ss.mergeSort (λx y=>decide (x <= y))).map Go.Proofs.encStr) /\ (r=.slice none 0 0↔ss=[]) /\ Below w.heap.size w W'):=by
 have h1:1 <= 6:=by omega
 obtain ⟨xA,xn,xc,rfl⟩:=hx.slice;have HX:=Fj hx;have HW:=Fj hw;refine callsIn_of_wp_marks Tryz.func138 rfl trivial ?_ rfl;simp only [Tryz.ntmps138,Mq,Tk,Jq,Nat.reduceAdd,Nat.reduceSub,Sw,Tw,Uw,Ww,Zq,Xq];have hs0:Sees ⟨w,bad⟩ ⟨w.alloc (.cells #[Vi x.op,Vi x.k,Vi x.n,.string x.s,.string x.nm,.slice xA xn xc] 50),bad⟩:=sees_below ((Xj _ w).alloc (Ij _) _);have hck:CallsIn Fence.wide (6 - 1) Tryz.prog 126 #[.agg #[Vi x.op,Vi x.k,Vi x.n,.string x.s,.string x.nm,.slice xA xn xc]] (w.alloc (.cells #[Vi x.op,Vi x.k,Vi x.n,.string x.s,.string x.nm,.slice xA xn xc] 50)) (λe W'=>e=.returned (Vi 0) /\ Below (w.alloc (.cells #[Vi x.op,Vi x.k,Vi x.n,.string x.s,.string x.nm,.slice xA xn xc] 50)).heap.size (w.alloc (.cells #[Vi x.op,Vi x.k,Vi x.n,.string x.s,.string x.nm,.slice xA xn xc] 50)) W'):=by
  refine callsIn_wide.2 ((check_any x (.slice xA xn xc) ⟨w.alloc (.cells #[Vi x.op,Vi x.k,Vi x.n,.string x.s,.string x.nm,.slice xA xn xc] 50),[]⟩ (hx.sees ⟨hs0.size,λb hb _=>((Xj _ w).alloc (Ij _) _).block b hb,λ_ h=>(by cases h)⟩) hw hsz (λx hx=>by cases hx) (by simp) (by simp) (by simp)).mono ?_);rintro e W' ⟨r,Bo,rfl,hlo,-,-,rfl⟩;exact ⟨by rw [hcx],hlo.below⟩
 gi_wp2_with ((try refine ⟨trivial,?_⟩); (try refine ⟨bA _,?_⟩); gi_at_call 126; refine hck.mono ?_; clear hck; rintro e W1 ⟨rfl,hB1⟩)
 have bx0:=Box.new w #[Vi x.op,Vi x.k,Vi x.n,.string x.s,.string x.nm,.slice xA xn xc] 50;have hz0:(w.alloc (.cells #[Vi x.op,Vi x.k,Vi x.n,.string x.s,.string x.nm,.slice xA xn xc] 50)).heap.size=w.heap.size + 1:=by simp
 have hBw:Below w.heap.size w W1:=((Xj _ w).alloc (Ij _) _).trans (hB1.mono (by simp));generalize (w.alloc (.cells #[Vi x.op,Vi x.k,Vi x.n,.string x.s,.string x.nm,.slice xA xn xc] 50))=W0 at *;obtain ⟨M,hM⟩:∃ M,M=W1.heap.size:=⟨_,rfl⟩;have hb1:=bx0.low hB1 (by omega);have hsz1:=hB1.size;obtain ⟨W2,hW2⟩:∃ W2,W2=W1.alloc (.map #[] 0):=⟨_,rfl⟩;obtain ⟨W3,hW3⟩:∃ W3,W3=W2.alloc (.cells #[.map (some M)] 242):=⟨_,rfl⟩;have hb3:Box W3 w.heap.size [Vi x.op,Vi x.k,Vi x.n,.string x.s,.string x.nm,.slice xA xn xc]:=by
  rw [hW3,hW2];exact hb1.low (((Xj _ W1).alloc (Ij _) _).alloc (by simp) _) (by omega)
 have c0:=hb3.cells 0 _ rfl;have c1:=hb3.cells 1 _ rfl;have c2:=hb3.cells 2 _ rfl;have c3:=hb3.cells 3 _ rfl;have c4:=hb3.cells 4 _ rfl;have c5:=hb3.cells 5 _ rfl;rw [hW3,hW2,hM] at c0 c1 c2 c3 c4 c5;simp only [run_makeMap,Result.andThen]
 gi_wp2_with ((try refine ⟨trivial,?_⟩); (try refine ⟨bA _,?_⟩); gi_at_call 166; refine (refs_in x (.slice xA xn xc) (6 - 1) _).mono ?_; rintro e w' ⟨rfl,rfl⟩)
 rw [<- hM, <- hW2, <- hW3];have z2:W2.heap.size=M + 1:=by rw [hW2,hM]; simp
 have z3:W3.heap.size=M + 1 + 1:=by rw [hW3,World.size_alloc,z2]
 have m3:W3.heap[M]?=some (mW (lZ [])):=by
  rw [hW3];refine ((Qw _ _).2 _ (by omega)).trans ?_;rw [hW2,hM]; exact (Qw _ _).1
 have b3:Boxed W3 (M + 1) 242 (.map (some M)):=by rw [hW3, <- z2]; exact Boxed.new _ _ _
 obtain ⟨W4,hW4⟩:∃ W4,W4=W3.alloc (.cells #[Vi x.op,Vi x.k,Vi x.n,.string x.s,.string x.nm,.slice xA xn xc] 50):=⟨_,rfl⟩;have z4:W4.heap.size=M + 1 + 1 + 1:=by rw [hW4,World.size_alloc,z3]
 have m4:W4.heap[M]?=some (mW (lZ [])):=by rw [hW4]; exact ((Qw _ _).2 _ (by omega)).trans m3
 have b4:Boxed W4 (M + 1) 242 (.map (some M)):=by rw [hW4]; exact b3.alloc _
 have x4:W4.heap[M + 1 + 1]?=some (.cells #[Vi x.op,Vi x.k,Vi x.n,.string x.s,.string x.nm,.slice xA xn xc] 50 (0,0)):=by rw [hW4, <- z3]; exact World.alloc_heap_new _ _
 have hB4:Below w.heap.size w W4:=by
  rw [hW4,hW3,hW2];exact hBw.trans (((((Xj _ W1).alloc (Ij _) _).alloc (by simp) _).alloc (by simp; omega) _).mono (by omega))
 rw [<- hW4];clear hW4 hW3 hW2 c0 c1 c2 c3 c4 c5 hb3 m3 b3 z2 z3;have HB:=Fj hB4;have HM:=Fj m4;have HBX:=Fj b4;have HX4:=Fj x4;clear hB4 m4 b4 x4 hb1 bx0 hB1 hs0 hx hw;subst hM;refine wpIn_rangeFunc_ownG (α:=ByteArray) rfl h1 (gf:=184) (lb:=#[.pointer (some ⟨W1.heap.size + 1 + 1,0,none⟩)]) rfl trivial (enters_of Tryz.func184 (by kernel_rfl) rfl)
  (refs_stops x (.slice xA xn xc) ⟨w,bad⟩ HX.out HW.out (6 - 1) (W1.heap.size + 1 + 1) W4 HB.out HX4.out) kp_t (kp_b HB.out.size) (Xj _ _) (λ_=>rfl)
  (λpre W=>(MetAt W W1.heap.size pre /\ Boxed W (W1.heap.size + 1) 242 (.map (some W1.heap.size))) /\ Below w.heap.size w W)
  (λ_ _ W=>False /\ Below w.heap.size w W)
  (OwnFrom.and (λs A B row hs hg hr=>⟨by
    obtain ⟨l,h2,h3⟩:=hs.1;exact ⟨l,(hg.block _ (Pk.1 h2).1 (λe=>by have:=(hr _ e.symm).1; omega)).trans h2,h3⟩,hs.2.kept hg (cells_own hs.2 rfl (λr e=>(hr r e).2))⟩) (ownFrom_below (Ij _) (by have:=HB.out.size; omega)))
  (λc=>OwnFrom.and (λs A B row hs hg hr=>hs) (ownFrom_below (Ij _) (by have:=HB.out.size; omega)))
  ⟨⟨met_nil HM.out,HBX.out⟩,HB.out⟩
  (λs=>{ tmps:=#[.agg #[Vi x.op,Vi x.k,Vi x.n,.string x.s,.string x.nm,.slice xA xn xc],.pointer (some ⟨w.heap.size,0,none⟩),.slice none 0 0,Vi 0,Vi 0,.pointer (some ⟨W1.heap.size + 1,0,none⟩),.string s,.agg #[Vi x.op,Vi x.k,Vi x.n,.string x.s,.string x.nm,.slice xA xn xc],Vi 0,Vi 0,.bool false,undef,.map (some W1.heap.size),.agg #[Vi x.op,Vi x.k,Vi x.n,.string x.s,.string x.nm,.slice xA xn xc],.func (.func 184) #[] #[.pointer (some ⟨W1.heap.size + 1 + 1,0,none⟩)],.string s,undef,undef,undef,undef,undef],defers:=[] }) ?assign ?body ?done ?stop
 case assign =>
  intro l s W K hK
  gi_wp2
  exact hK
 case body =>
  rintro l pre s W ⟨⟨hmet,hbx⟩,hB⟩ hpl;obtain ⟨o,W',hu,hW',hmet'⟩:=met_put (P:=Tryz.prog) (t:=242) s hmet Tryz.underlying242 Tryz.underlying9;obtain ⟨lm,hm,-⟩:=hmet;have cM:=hbx.cell;have hgr:=grown_set o hm;have hml:=(Pk.1 hm).1;have hbl:Below w.heap.size W _:=(Xj w.heap.size W).grown hgr hB.size (λk e=>by cases e; exact hBw.size);have hkc:=KeepsCells.grown hgr (λr e=>by cases e; exact ⟨_,hm,rfl⟩);rw [<- hW'] at hgr hbl hkc;have HF:=Fj (Aj (KeepsFrom.of_grownBy (B:=W4.heap.size) hgr (λj e=>by cases e; omega)) (Aj (Kp.mk hbl hkc) (Aj (Aj hmet' (hkc.boxed hbx)) (hB.trans hbl))));clear hgr hbl hkc hmet' hW' hB hm hml hbx hpl
  gi_wp2_with (first | (gi_at_mapUpdate; refine wpListIn_mapUpdate_at rfl _ _ _ 242 rfl rfl rfl rfl hu ?_) | gi_in)
  have hfo:=HF.out;rw [z4] at hfo;exact ⟨hfo.1,hfo.2.1,hfo.2.2⟩
 case done =>
  rintro D ys W hD rfl ⟨⟨⟨l,hm,hk,hnd,hv⟩,hbx⟩,hB⟩ hK;have hks:∀ p∈l,p.1.size <= 10:=λp hp=>by
   have hr:=(hk p.1).1 (Qj.2 ⟨p,hp,rfl⟩)
   have:=refs_ok HW.out hr
   simpa using this.2.1
  have hll:l.length <= 1000000:=by
   have h1:=nodup_le hnd (m:=nY x) (λs hs=>(hk s).1 hs);have h2:=refs_len x;simp only [Hj] at h1;omega
  obtain ⟨D0,hown,hkeys,hsize⟩:=map_owned (P:=Tryz.prog) (k:=9) (e:=4) hm hnd (λp hp=>by have:=hks p hp; unfold maxLen; omega) hv (by unfold maxLen; omega) Tryz.underlying9 Tryz.underlying4;have cM:=hbx.cell;have hfK:Fence.wide.fn 168:=trivial;have hfS:Fence.wide.fn 167:=trivial
  gi_wp2_with (first
   | (gi_at_call 168; refine (Tryz.maps_Keys_168 _ _).mono ?_; rintro e w' ⟨rfl,rfl⟩)
   | (gi_at_call 167; refine (Tryz.slices_Sorted_keys_167_168 W1.heap.size l.length D0 _ W hown (by unfold maxLen; omega) (by omega)).mono ?_; rintro e w' ⟨r,ss,rfl,hS,hrow,hnil,hb⟩))
  have hWD:D < W.heap.size:=(Pk.1 hK).1;have hza:(W.alloc (.cells #[.map (some W1.heap.size)] 242)).heap.size=W.heap.size + 1:=World.size_alloc _ _;have hK':w'.heap[D]?=some (.deferred (some [])):=(hb.block D (by omega)).trans (((Xj _ W).alloc (Ij _) _).block D hWD |>.trans hK);have hBz:=hB.size;have hrow2:(w'.putObj D (.deferred none)).ownsRow w.heap.size 9 1 r ss.length ((ss.mergeSort (λx y=>decide (x <= y))).map Go.Proofs.encStr):=by
   refine ⟨hrow.1,?_⟩;rcases hrow.2 with q | ⟨g,cap,cur,e,hbg,hg,rest⟩
   ·exact .inl q
   ·refine .inr ⟨g,cap,cur,e,by omega,?_,rest⟩;rw [(grownBy_putObj' w' D (.deferred none)).block g (Pk.1 hg).1 (λe=>by injection e; omega)];exact hg
  have hmem:∀ s:ByteArray,s.data.toList∈strKeys D0↔s∈nY x:=λs=>by
   rw [hkeys.mem_iff, <- hk s,Qj,Qj]
   constructor
   ·rintro ⟨p,hp,e⟩;refine ⟨p,hp,?_⟩;obtain ⟨⟨⟨a⟩⟩,b⟩:=p;obtain ⟨⟨c⟩⟩:=s;simp only at e ⊢;rw [e]
   ·rintro ⟨p,hp,e⟩;exact ⟨p,hp,by rw [e]⟩
  have hndk:(strKeys D0).Nodup:=by
   rw [hkeys.nodup_iff];refine Xw.2 ((Xw.1 hnd).imp λ{p q} hpq e=>hpq ?_);obtain ⟨⟨⟨a⟩⟩,b⟩:=p;obtain ⟨⟨⟨c⟩⟩,d⟩:=q;simp only at e ⊢;rw [e]
  refine ⟨by simp,.inl ⟨_,_,rfl,run_takeDeferred hK',?_⟩⟩;refine ⟨.tuple #[r,Vi 0],?_,r,ss,D0,rfl,hS,hndk,hmem,hrow2,hnil,(hB.trans ((((Xj w.heap.size W).alloc (by omega) _)).trans (hb.mono (by omega)))).trans (belowK_b (w:=w) (Ij _) _ D _ _ (by omega) hK' rfl rfl)⟩;simp [results,Tryz.f138,go_sem]
 case stop =>
  rintro D c pre W hD - ⟨hf,-⟩;exact hf.elim
def dd {α:Type} [DecidableEq α]:List α -> List α
 | []=>[]
 | x :: l=>if x∈l then dd l else x :: dd l
theorem mem_dd {α:Type} [DecidableEq α] {x:α}:∀ {l:List α},x∈dd l↔x∈l
 | []=>Iff.rfl
 | y :: l=>by
  unfold dd
  split
  ·rename_i h;rw [mem_dd (l:=l),Tj];exact ⟨.inr,λq=>q.elim (λe=>e ▸ h) id⟩
  ·rw [Tj,Tj,mem_dd (l:=l)]
theorem nodup_dd {α:Type} [DecidableEq α]:∀ l:List α,(dd l).Nodup
 | []=>List.nodup_nil
 | y :: l=>by
  unfold dd
  split
  ·exact nodup_dd l
  ·rename_i h;exact Kq.2 ⟨λq=>h (mem_dd.1 q),nodup_dd l⟩
def namesB (x:Ex):List (List UInt8):=(dd ((nY x).map λs=>s.data.toList)).mergeSort λx y=>decide (x <= y)
def qW (x:Ex):List ByteArray:=(namesB x).map λl=>⟨l.toArray⟩
theorem mem_namesB {x:Ex} {l:List UInt8}:l∈namesB x↔∃ s∈nY x,s.data.toList=l:=by
 unfold namesB;rw [List.mem_mergeSort,mem_dd,Qj]
theorem mem_namesE {x:Ex} {s:ByteArray}:s∈qW x↔s∈nY x:=by
 unfold qW;rw [Qj]
 constructor
 ·rintro ⟨l,hl,rfl⟩;obtain ⟨t,ht,rfl⟩:=mem_namesB.1 hl
  have:(⟨t.data.toList.toArray⟩:ByteArray)=t:=by simp
  rw [this]; exact ht
 ·intro h;exact ⟨s.data.toList,mem_namesB.2 ⟨s,h,rfl⟩,by simp⟩
theorem namesB_nodup (x:Ex):(namesB x).Nodup:=(List.mergeSort_perm _ _).nodup_iff.2 (nodup_dd _)
theorem namesE_nodup (x:Ex):(qW x).Nodup:=Xw.2 ((namesB_nodup x).imp λ{a b} h e=>h (by simpa using Ej (λs:ByteArray=>s.data.toList) e))
theorem namesE_len (x:Ex):(qW x).length <= (nY x).length:=nodup_le (namesE_nodup x) λ_ h=>mem_namesE.1 h
theorem sort_names {x:Ex} {ss ks:List (List UInt8)} (h:ss.Perm ks) (hn:ks.Nodup) (hm:∀ s:ByteArray,s.data.toList∈ks↔s∈nY x):ss.mergeSort (λx y=>decide (x <= y))=namesB x:=by
 refine mergeSort_of_perm (h.trans ((List.perm_ext_iff_of_nodup hn (nodup_dd _)).2 λl=>?_));rw [mem_dd,Qj]
 have:=hm ⟨l.toArray⟩
 simp only at this;rw [this]
 constructor
 ·intro q; exact ⟨_,q,by simp⟩
 ·rintro ⟨s,hs,rfl⟩
  simpa using hs
theorem enc_flat:∀ l:List (List UInt8),(l.map Go.Proofs.encStr)=(mZ (l.map λl=>(⟨l.toArray⟩:ByteArray))).flatten
 | []=>rfl
 | x :: l=>by
  rw [Ck,enc_flat l]; rfl
theorem nmOf_any (x:Ex) (v:Value) (h:Vw) (hx:IsArgs h x v) (hw:WfE x) (hsz:(szE x).1 < 1000000) (hcx:chkE x=0) :
  C0 Tryz.prog 138 #[.agg #[Vi x.op,Vi x.k,Vi x.n,.string x.s,.string x.nm,v]] h (λr h'=>∃ A c,r=.tuple #[.slice A (qW x).length c,Vi 0] /\ RS h' 1 (.slice A (qW x).length c) (mZ (qW x))):=by
 intro _ _ _ hbad;refine (callsIn_wide.1 (of_in x v h.w h.bad hx hw hsz hcx)).mono ?_;rintro e w' ⟨r,ss,D0,rfl,hS,hnd,hm,hrow,-,hb⟩;rw [sort_names hS hnd hm,enc_flat] at hrow;have hl:ss.length=(mZ (qW x)).length:=by
  rw [Hj,qW,Hj, <- sort_names hS hnd hm,List.length_mergeSort]
 rw [hl] at hrow;have hent:Ent.ok h.w.heap.size w' (.row r 9 1 (mZ (qW x))):=⟨hrow,λq hq=>by obtain ⟨s,-,rfl⟩:=Qj.1 hq; rfl⟩;have hrs:RS ⟨w',h.bad⟩ 1 r (mZ (qW x)):=row_rs hent λb hb' hm=>by have:=(hrow.lt b hb').1; have:=hbad b hm; omega
 obtain ⟨A,c,e,-⟩:=hrs.form;rw [Hj] at e;subst e;exact ⟨_,[],rfl,Low.of_below hb,(λx hx=>by cases hx),rfl,A,c,rfl,hrs⟩
open Go.RowKit
def plc (fs:List Fd) (s:ByteArray):Nat:=(iQ fs s).toNat
def needE (fs:List Fd) (f:Fd):List Nat:=if f.kind=1 then [] else (qW f.src).map (plc fs)
def uW (fs:List Fd):List (List Nat):=fs.map (needE fs)
def nW (out:List Int):Int -> List Nat -> Int
 | a,[]=>a
 | a,k :: l=>if out.getD k 0 < 0 then -1 else nW out (max a (out.getD k 0 + 1)) l
def rkStep (need:List (List Nat)) (out:List Int) (i:Nat):List Int:=out.set i (max (out.getD i 0) (nW out 0 (need.getD i [])))
def sY (need:List (List Nat)) (out:List Int):Nat -> List Int
 | 0=>out
 | i + 1=>rkStep need (sY need out i) i
def lY (need:List (List Nat)):Nat -> List Int
 | 0=>List.replicate need.length (-1)
 | t + 1=>sY need (lY need t) need.length
theorem round_len (need:List (List Nat)) (out:List Int):∀ i,(sY need out i).length=out.length
 | 0=>rfl
 | i + 1=>by rw [sY,rkStep,Lq,round_len need out i]
theorem ranks_len (need:List (List Nat)):∀ t,(lY need t).length=need.length
 | 0=>by rw [lY,Ew]
 | t + 1=>by rw [lY,round_len,ranks_len need t]
def topR (r:List Int) (l:List Nat):Int:=l.foldl (λa k=>max a (r.getD k 0 + 1)) 0
theorem fold_top (r:List Int):∀ (l:List Nat) (a:Int),0 <= a -> l.foldl (λa k=>max a (r.getD k 0 + 1)) a=max a (topR r l) /\ 0 <= topR r l
 | [],a,h=>⟨by unfold topR; simp only [List.foldl_nil]; omega,by unfold topR; simp⟩
 | k :: l,a,h=>by
  have h1:=fold_top r l (max a (r.getD k 0 + 1)) (by omega);have h2:=fold_top r l (max 0 (r.getD k 0 + 1)) (by omega);have e:topR r (k :: l)=max (max 0 (r.getD k 0 + 1)) (topR r l):=by show List.foldl _ _ _=_; rw [Jv]; exact h2.1
  rw [Jv,h1.1,e]
  have:=h1.2
  exact ⟨by omega,by omega⟩
theorem top_cons (r:List Int) (k:Nat) (l:List Nat):topR r (k :: l)=max (max 0 (r.getD k 0 + 1)) (topR r l):=(fold_top r l (max 0 (r.getD k 0 + 1)) (by omega)).1
theorem top_nn (r:List Int) (l:List Nat):0 <= topR r l:=(fold_top r l 0 (Sq _)).2
theorem top_le {r:List Int} {k:Nat}:∀ {l:List Nat},k∈l -> r.getD k 0 + 1 <= topR r l
 | x :: l,h=>by
  rw [top_cons];rcases Tj.1 h with rfl | h
  ·omega
  ·have:=top_le (r:=r) h; omega
structure Ranked (need:List (List Nat)) (ρ:List Int) (lv:Nat -> Nat):Prop where
 len:ρ.length=need.length
 at_:∀ i,i < need.length -> ρ.getD i 0=topR ρ (need.getD i [])
 low:∀ i,i < need.length -> ∀ k∈need.getD i [],k < need.length /\ lv k < lv i
 few:∀ i,i < need.length -> lv i < need.length
theorem mostA_yes {out ρ:List Int}:∀ (l:List Nat) (a:Int),0 <= a -> (∀ k∈l,out.getD k 0=ρ.getD k 0 /\ 0 <= ρ.getD k 0) -> nW out a l=max a (topR ρ l)
 | [],a,h,_=>by unfold nW topR; simp only [List.foldl_nil]; omega
 | k :: l,a,h,hk=>by
  obtain ⟨h1,h2⟩:=hk k (by simp);unfold nW;rw [Bj (by omega),mostA_yes l _ (by omega) (λk' hk'=>hk k' (by simp [hk'])),h1,top_cons];omega
theorem mostA_no {out:List Int}:∀ (l:List Nat) (a:Int),(∃ k∈l,out.getD k 0 < 0) -> nW out a l = -1
 | k :: l,a,⟨k',hk',h⟩=>by
  unfold nW
  split
  ·rfl
  ·rename_i q;rcases Tj.1 hk' with rfl | hk'
   ·exact absurd h q
   ·exact mostA_no l _ ⟨k',hk',h⟩
structure Good (need:List (List Nat)) (ρ:List Int) (lv:Nat -> Nat) (out:List Int) (t i:Nat):Prop where
 len:out.length=need.length
 or_:∀ j,j < need.length -> out.getD j 0=ρ.getD j 0\/out.getD j 0 = -1
 has:∀ j,j < need.length -> lv j < t -> out.getD j 0=ρ.getD j 0
 now:∀ j,j < i -> j < need.length -> lv j < t + 1 -> out.getD j 0=ρ.getD j 0
theorem rank_nn {need:List (List Nat)} {ρ:List Int} {lv:Nat -> Nat} (h:Ranked need ρ lv) {i:Nat} (hi:i < need.length):0 <= ρ.getD i 0:=by rw [h.at_ i hi]; exact top_nn _ _
theorem getD_set {l:List Int} {i j:Nat} {v:Int} (hi:i < l.length):(l.set i v).getD j 0=if j=i then v else l.getD j 0:=by
 rw [Uk,Uk,Bw]
 by_cases e:i=j
 ·subst e; rw [Cj rfl,Cj hi,Cj rfl]; rfl
 ·rw [Bj e,Bj λq=>e q.symm]
theorem step_good {need:List (List Nat)} {ρ:List Int} {lv:Nat -> Nat} (h:Ranked need ρ lv) {out:List Int} {t i:Nat} (g:Good need ρ lv out t i) (hi:i < need.length):Good need ρ lv (rkStep need out i) t (i + 1):=by
 have hil:i < out.length:=by rw [g.len]; exact hi
 have hn:=rank_nn h hi;have hold:=g.or_ i hi;have key:(max (out.getD i 0) (nW out 0 (need.getD i []))=ρ.getD i 0\/max (out.getD i 0) (nW out 0 (need.getD i []))=out.getD i 0) /\ (lv i < t + 1 -> max (out.getD i 0) (nW out 0 (need.getD i []))=ρ.getD i 0):=by
  by_cases q:∃ k∈need.getD i [],out.getD k 0 < 0
  ·rw [mostA_no _ _ q];refine ⟨.inr (by omega),λhlv=>?_⟩;obtain ⟨k,hk,hkl⟩:=q;obtain ⟨k1,k2⟩:=h.low i hi k hk
   have:=g.has k k1 (by omega)
   have:=rank_nn h k1
   omega
  ·have hy:nW out 0 (need.getD i [])=max 0 (topR ρ (need.getD i [])):=mostA_yes _ _ (Sq _) λk hk=>by
    obtain ⟨k1,k2⟩:=h.low i hi k hk;have hp:=rank_nn h k1;refine ⟨?_,hp⟩;rcases g.or_ k k1 with e | e
    ·exact e
    ·exact absurd ⟨k,hk,by omega⟩ q
   rw [hy, <- h.at_ i hi];exact ⟨.inl (by omega),λ_=>by omega⟩
 unfold rkStep;refine ⟨by rw [Lq]; exact g.len,λj hj=>?_,λj hj hl=>?_,λj hj hj2 hl=>?_⟩
 ·rw [getD_set hil]
  split
  ·rename_i e; subst e;rcases key.1 with q | q
   ·exact .inl q
   ·rw [q]; exact hold
  ·exact g.or_ j hj
 ·rw [getD_set hil]
  split
  ·rename_i e; subst e; exact key.2 (by omega)
  ·exact g.has j hj hl
 ·rw [getD_set hil]
  split
  ·rename_i e; subst e; exact key.2 hl
  ·exact g.now j (by omega) hj2 hl
theorem round_good {need:List (List Nat)} {ρ:List Int} {lv:Nat -> Nat} (h:Ranked need ρ lv) {out:List Int} {t:Nat} (g:Good need ρ lv out t 0):∀ i,i <= need.length -> Good need ρ lv (sY need out i) t i
 | 0,_=>g
 | i + 1,hi=>step_good h (round_good h g i (by omega)) (by omega)
theorem ranks_good {need:List (List Nat)} {ρ:List Int} {lv:Nat -> Nat} (h:Ranked need ρ lv):∀ t,Good need ρ lv (lY need t) t 0
 | 0=>⟨ranks_len need 0,λj hj=>.inr (by rw [lY,Uk,List.getElem?_replicate,Cj hj]; rfl),λj hj hl=>absurd hl (by omega),λj hj=>absurd hj (by omega)⟩
 | t + 1=>by
  have g:=round_good h (ranks_good h t) need.length (Ij _);exact ⟨g.len,g.or_,λj hj hl=>g.now j hj hj hl,λj hj=>absurd hj (by omega)⟩
theorem ranks_true {need:List (List Nat)} {ρ:List Int} {lv:Nat -> Nat} (h:Ranked need ρ lv):lY need need.length=ρ:=by
 have g:=ranks_good h need.length;refine Qq λi=>?_
 by_cases hi:i < need.length
 ·have:=g.has i hi (h.few i hi)
  rw [Uk,Uk,Gj (by rw [g.len]; exact hi),Gj (by rw [h.len]; exact hi)] at this;rw [Gj (by rw [g.len]; exact hi),Gj (by rw [h.len]; exact hi)];exact Ej some this
 ·rw [Iq (by rw [g.len]; omega),Iq (by rw [h.len]; omega)]
set_option linter.unusedVariables false
abbrev sW (l:List Nat):List (List Value):=l.map λ(k:Nat)=>[Value.int .i64 (k:Int)]
theorem natRows_snoc (l:List Nat) (k:Nat):sW (l++[k])=sW l++[[Vi (k:Int)]]:=by simp [sW]
def NeedAll (h:Vw):List (List Nat) -> List Value -> Prop
 | [],us=>us=[]
 | x :: l,us=>∃ u r,us=u :: r /\ RS h 1 u (sW x) /\ NeedAll h l r
theorem NeedAll.sees {h h':Vw} (s:Sees h h'):∀ {l:List (List Nat)} {us:List Value},NeedAll h l us -> NeedAll h' l us
 | [],_,k=>k
 | x :: l,_,⟨u,r,e,k1,k2⟩=>⟨u,r,e,k1.sees s,NeedAll.sees s k2⟩
theorem NeedAll.len {h:Vw}:∀ {l:List (List Nat)} {us:List Value},NeedAll h l us -> us.length=l.length
 | [],_,k=>by cases k; rfl
 | x :: l,_,⟨u,r,e,k1,k2⟩=>by subst e; simp [NeedAll.len k2]
theorem NeedAll.snoc {h:Vw} {x:List Nat} {u:Value} (k:RS h 1 u (sW x)):∀ {l:List (List Nat)} {us:List Value},NeedAll h l us -> NeedAll h (l++[x]) (us++[u])
 | [],_,e=>by cases e; exact ⟨u,[],rfl,k,rfl⟩
 | y :: l,_,⟨u',r,e,k1,k2⟩=>by subst e; exact ⟨u',r++[u],rfl,k1,NeedAll.snoc k k2⟩
theorem NeedAll.get {h:Vw}:∀ {l:List (List Nat)} {us:List Value},NeedAll h l us -> ∀ {i:Nat} {x:List Nat} {u:Value},l[i]?=some x -> us[i]?=some u -> RS h 1 u (sW x)
 | [],_,_,i,x,u,hx,_=>by simp at hx
 | y :: l,_,⟨u',r,e,k1,k2⟩,i,x,u,hx,hu=>by
  subst e
  cases i with
  | zero=>simp at hx hu; subst hx hu; exact k1
  | succ i=>exact NeedAll.get k2 (by simpa using hx) (by simpa using hu)
theorem refs_le (x:Ex):(nY x).length <= (szE x).1:=by
 refine ex_ind (p:=λx=>(nY x).length <= (szE x).1) (λx ih=>?_) x;have key:∀ l:List Ex,(∀ y∈l,(nY y).length <= (szE y).1) -> (pY l).length <= (szL l).1:=by
  intro l
  induction l with
  | nil=>intro _; simp [pY]
  | cons y l ihl =>
   intro hl;have h1:=hl y (by simp);have h2:=ihl λz hz=>hl z (by simp [hz]);rw [pY,szL,Bk];simp only;omega
 have:=key x.args ih
 rw [oY,nZ,Bk];simp only
 split <;> simp <;> omega
theorem one_snoc (us:List Value) (u:Value):(us++[u]).map (λu=>[u])=us.map (λu=>[u])++[[u]]:=by simp
theorem findP_any (fs:List Fd) (v:Value) (s:ByteArray) (h:Vw) (hf:IsFds h v fs) (hl:fs.length <= 1000000):C0 Tryz.prog 44 #[v,.string s] h (λr _=>r=.tuple #[Vi ((plc fs s:Nat):Int),Vi (if iQ fs s < 0 then 5 else 0)]):=by
 unfold plc;rcases findF_lt fs s with e | ⟨i,f,e,-,-⟩
 ·rw [e]; exact find_no fs v s h hf hl (by omega)
 ·rw [e,Bj (by omega)]; exact find_yes fs v s i h hf hl e
theorem needs_any (fs:List Fd) (fv:Value) (h:Vw) (hok:OkFs fs) (hfs:IsFds h fv fs) :
  C0 Tryz.prog 113 #[fv] h (λr h'=>∃ A c us,r=.slice A fs.length c /\ RS h' 1 (.slice A fs.length c) (us.map λu=>[u]) /\ NeedAll h' (uW fs) us):=by
 obtain ⟨vs,A,c,rfl,-,-,hr,hsrc,hvl,hsl⟩:=gQ hfs;have few:=hok.few;have hFi:=λH s q=>findP_any fs (.slice A fs.length c) s H q (by omega);generalize hL:fs.length=len at *;refine wQ Tryz.func113 (c:=Tryz.f113.body.getD .skip) (N:=51) ?_;intro hbx hbad Q hQ;refine iV 72 1 ?_;refine go0 19 [] [] ?_;refine eV [0,1,0,1,1] [.block 0,.seq [1,1,1]] (λ(k:Nat) X=>∃ (W1:Vw) (v:Value) (us:List Value),X W1 [(0,.slice A len c),(13,.slice A len c),(14,Vi (len:Int)),(15,Vi (k:Int)),(3,v)] [.row v 72 1 (us.map (λu=>[u]))] [] /\ Sees h W1 /\ (k <= len) /\ (NeedAll W1 ((uW fs).take k) us)) (λk=>len - k) (0) (λX q=>⟨h,(Vz),[],q _ _ _ _ ⟨rfl,by kernel_rfl⟩,Sees.refl _,Kj _,rfl⟩) ?_;rintro k a w ⟨W1,v,us,hJ,S2,hk,hus⟩; refine jV hJ ?_; clear hJ a w;refine go0 6 [] [] ?_;rcases (by omega:k < len\/k=len) with hlt | hke
 ·obtain ⟨f,hfk⟩:∃ f,fs[k]?=some f:=⟨_,Gj (by omega)⟩;obtain ⟨u,huk⟩:∃ u,vs[k]?=some u:=⟨_,Gj (by omega)⟩;have hslu:=hsl u (Dj huk);have hrow:(dQ fs vs)[k]?=some (fdRow f (sL u)):=by rw [hslu]; exact eQ hfk huk
  have ha:IsArgs h f.src (sL u):=by rw [hslu]; exact AllArgs.get hsrc (x:=f.src) (by rw [Nj,hfk]; rfl) huk
  have hof:=hok.each f (Dj hfk);have hnk:(uW fs)[k]?=some (needE fs f):=by unfold uW; rw [Nj,hfk]; rfl
  have hsn:=qZ _ k _ hnk;have hul:=hus.len;rw [Uj,show (uW fs).length=len from by unfold uW; rw [Hj]; exact hL] at hul
  by_cases g:f.kind=1
  ·have hne:needE fs f=[]:=by unfold needE; rw [Cj g]
   refine oV (t:=decide ((k:Int) < (len:Int))) (Mj (by omega)) ?_;refine go0 6 [] [] ?_;obtain ⟨b3,o4,rfl,-,c5⟩:=RS.row hr (hrow);refine xQ (c5.sees S2) ?_;refine gov2 26 [.ix b3 o4 len c k,.f 0 0,.own,.b 0 0,.b 0 1,.fix] [(21,.bool (f.kind != 1),.bool false)] ?_ (ho:=(Aj (by first | omega | (simp; omega)) (trivial))) (hc:=(Aj (Ej Value.bool (by simpa using g)) (trivial)));intro b6 b7 W8 S9;refine goa0 9 [.ap 1 0 (us.map (λu=>[u])) [[Vz]]] [(49,Vi (IntKind.i64.wrap ((k:Int) + 1)),Vi ((k:Int) + 1))] ?_ (ho:=(Aj (by constructor <;> (simp; omega)) (trivial))) (hc:=(Aj (jJ (by omega) (by omega)) (trivial)));intro v48 W10 S11;refine cV [(0,.slice (some ⟨b3,o4,none⟩) len c),(13,.slice (some ⟨b3,o4,none⟩) len c),(14,Vi (len:Int)),(3,sL v48),(15,Vi ((k:Int) + 1))] [.row (sL v48) 72 1 ((us.map (λu=>[u]))++[[Vz]])] [] ?_;exact nV (k + 1) (λX q=>⟨W10,sL v48,us++[Vz],q _ _ _ _ (aZ (by rw [one_snoc]; try rfl)),(S2.trans (S9.trans S11)),by omega,by rw [hsn,hne]; exact NeedAll.snoc (RS.nil _ _) (hus.sees (S9.trans S11))⟩) (by omega)
  ·skip;obtain ⟨w1,w2,w3⟩:=hof.wf g
   have hne:needE fs f=(qW f.src).map (plc fs):=by unfold needE; rw [Bj g]
   have hnm:=λH q=>nmOf_any f.src (sL u) H q w1 (by omega) w3;have hnl:=Wk (namesE_len f.src) (refs_le f.src);rw [hne] at hsn;generalize qW f.src=nm at *;refine oV (t:=decide ((k:Int) < (len:Int))) (Mj (by omega)) ?_;refine go0 6 [] [] ?_;obtain ⟨b12,o13,rfl,-,c14⟩:=RS.row hr (hrow);refine xQ (c14.sees S2) ?_;refine go1 24 [.ix b12 o13 len c k,.f 0 0,.own,.b 0 0,.b 0 1,.b 0 3] [(21,.bool (f.kind != 1),.bool true)] ?_ (ho:=(Aj (by first | omega | (simp; omega)) (trivial))) (hc:=(Aj (Ej Value.bool (by simpa using g)) (trivial)));intro b15;refine qQ (λH sH=>hnm _ (ha.sees (S2.trans sH))) ?_; rintro _ W16 S17 ⟨An,cn,rfl,hnr⟩;refine go0 15 [] [] ?_;refine iV 3 1 ?_;refine eV [0,1,1,0,1,0,1,1,0,0,1,1,0,0,1,0,1,1] [.block 2,.seq [1,1,1,0,0,1,1,0,0,1,0,1,1],.block 1,.seq [1,1,1,0,0,1,0,1,1]] (λ(j:Nat) X=>∃ (W18:Vw) (mv:Value),X W18 [(0,.slice (some ⟨b12,o13,none⟩) len c),(13,.slice (some ⟨b12,o13,none⟩) len c),(14,Vi (len:Int)),(15,Vi (k:Int)),(3,v),(28,.slice An nm.length cn),(29,Vi (nm.length:Int)),(30,Vi (j:Int)),(6,mv)] [.row mv 3 1 (sW ((nm.map (plc fs)).take j)),.box b15 [Vt f.name,Vi f.kind,Vi f.ty,Vi f.src.op,Vi f.src.k,Vi f.src.n,.string f.src.s,.string f.src.nm,sL u],.row v 72 1 (us.map (λu=>[u]))] [(b12,o13 + k * 9,[Vt f.name,Vi f.kind,Vi f.ty,Vi f.src.op,Vi f.src.k,Vi f.src.n,.string f.src.s,.string f.src.nm,sL u])] /\ Sees W16 W18 /\ (j <= nm.length)) (λj=>nm.length - j) (0) (λX q=>⟨W16,(Vz),q _ _ _ _ ⟨rfl,by kernel_rfl⟩,Sees.refl _,Kj _⟩) ?_;rintro j a w ⟨W18,mv,hJ,S19,hj⟩; refine jV hJ ?_; clear hJ a w;refine go0 6 [] [] ?_;rcases (by omega:j < nm.length\/j=nm.length) with hjl | hje
   ·obtain ⟨s,hs⟩:∃ s,nm[j]?=some s:=⟨_,Gj hjl⟩;have hsr:(mZ nm)[j]?=some [Vt s]:=by show (nm.map _)[j]?=_; rw [Nj,hs]; rfl
    have hjk:(nm.map (plc fs))[j]?=some (plc fs s):=by rw [Nj,hs]; rfl
    have hjn:=qZ _ j _ hjk;refine oV (t:=decide ((j:Int) < (nm.length:Int))) (Mj (by omega)) ?_;refine go0 6 [] [] ?_;obtain ⟨b20,o21,rfl,-,c22⟩:=RS.row hnr (hsr);refine xQ (c22.sees S19) ?_;refine tV 21 [.ix b20 o21 nm.length cn j,.f 0 0,.cl 44 #[.slice (some ⟨b12,o13,none⟩) len c,.string s] (.tuple #[Vi ((plc fs s:Nat):Int),Vi (if iQ fs s < 0 then 5 else 0)]),.fix] [] ?_ (ho:=(Aj (by first | omega | (simp; omega)) (Aj (λH sH=>hFi _ s (hfs.sees (S2.trans (S17.trans (S19.trans sH))))) (trivial))));intro b23 W24 S25;refine goa0 9 [.ap 0 0 (sW ((nm.map (plc fs)).take j)) [[Vi ((plc fs s:Nat):Int)]]] [(44,Vi (IntKind.i64.wrap ((j:Int) + 1)),Vi ((j:Int) + 1))] ?_ (ho:=(Aj (by constructor <;> (simp; omega)) (trivial))) (hc:=(Aj (jJ (by omega) (by omega)) (trivial)));intro v43 W26 S27;refine cV [(0,.slice (some ⟨b12,o13,none⟩) len c),(13,.slice (some ⟨b12,o13,none⟩) len c),(14,Vi (len:Int)),(15,Vi (k:Int)),(3,v),(28,.slice (some ⟨b20,o21,none⟩) nm.length cn),(29,Vi (nm.length:Int)),(6,sL v43),(30,Vi ((j:Int) + 1))] [.row (sL v43) 3 1 ((sW ((nm.map (plc fs)).take j))++[[Vi ((plc fs s:Nat):Int)]]),.box b15 [Vt f.name,Vi f.kind,Vi f.ty,Vi f.src.op,Vi f.src.k,Vi f.src.n,.string f.src.s,.string f.src.nm,sL u],.row v 72 1 (us.map (λu=>[u]))] [(b12,o13 + k * 9,[Vt f.name,Vi f.kind,Vi f.ty,Vi f.src.op,Vi f.src.k,Vi f.src.n,.string f.src.s,.string f.src.nm,sL u])] ?_;exact nV (j + 1) (λX q=>⟨W26,sL v43,q _ _ _ _ (aZ (by rw [hjn,natRows_snoc])),(S19.trans (S25.trans S27)),by omega⟩) (by omega)
   ·skip;have hta:(nm.map (plc fs)).take j=nm.map (plc fs):=by rw [hje,Nv (by rw [Hj]; omega)]
    rw [hta];have hml:(sW (nm.map (plc fs))).length=nm.length:=by simp
    refine zQ 0 (v:=mv) (e:=3) (kk:=1) (l:=sW (nm.map (plc fs))) ?_; intro Am cm hE_mv hc_mv hm_mv;rw [show (sW (nm.map (plc fs))).length=nm.length from by first | omega | (simp; done) | (simp; omega)] at hE_mv hc_mv;rw [hE_mv];refine aV 0 (v:=.slice Am nm.length cm) (e:=3) (kk:=1) (l:=sW (nm.map (plc fs))) ?_; intro W28 S29 fm;refine yQ (t:=decide ((j:Int) < (nm.length:Int))) (Jj (by omega)) ?_;refine go0 2 [] [] ?_;refine dV ?_;refine tV 6 [.fix] [] ?_;intro b30 W31 S32;refine goa0 9 [.ap 1 0 (us.map (λu=>[u])) [[.slice Am nm.length cm]]] [(49,Vi (IntKind.i64.wrap ((k:Int) + 1)),Vi ((k:Int) + 1))] ?_ (ho:=(Aj (by constructor <;> (simp; omega)) (trivial))) (hc:=(Aj (jJ (by omega) (by omega)) (trivial)));intro v48 W33 S34;refine cV [(0,.slice (some ⟨b12,o13,none⟩) len c),(13,.slice (some ⟨b12,o13,none⟩) len c),(14,Vi (len:Int)),(3,sL v48),(15,Vi ((k:Int) + 1))] [.row (sL v48) 72 1 ((us.map (λu=>[u]))++[[.slice Am nm.length cm]])] [] ?_;exact nV (k + 1) (λX q=>⟨W33,sL v48,us++[.slice Am nm.length cm],q _ _ _ _ (aZ (by rw [one_snoc]; try rfl)),(S2.trans (S17.trans (S19.trans (S29.trans (S32.trans S34))))),by omega,by rw [hsn]; exact NeedAll.snoc (fm.sees (S32.trans S34)) (hus.sees (S17.trans (S19.trans (S29.trans (S32.trans S34)))))⟩) (by omega)
 ·skip;have hta:(uW fs).take k=uW fs:=by rw [hke,Nv (by unfold uW; rw [Hj]; omega)]
  rw [hta] at hus;have hul:=hus.len;have hrl:(us.map λu=>[u]).length=len:=by rw [Hj,hul]; unfold uW; rw [Hj]; exact hL
  refine zQ 0 (v:=v) (e:=72) (kk:=1) (l:=us.map (λu=>[u])) ?_; intro Ar cr hE_v hc_v hm_v;rw [show (us.map (λu=>[u])).length=len from by first | omega | (simp; done) | (simp; omega)] at hE_v hc_v;rw [hE_v];refine yQ (t:=decide ((k:Int) < (len:Int))) (Jj (by omega)) ?_;refine go0 2 [] [] ?_;refine dV ?_;refine go0 9 [] [] ?_;refine cV [(2,.slice Ar len cr)] [.row (.slice Ar len cr) 72 1 (us.map (λu=>[u]))] [] ?_;refine hQ.toJ [.slice Ar len cr] [] (λa w hJ=>?_);have fr:=hJ.j.rowOut0 (v:=.slice Ar len cr) (e:=72) (k:=1) (l:=us.map (λu=>[u])) 0 (by kernel_rfl) rfl;exact ⟨Ar,cr,us,rfl,fr,(hus.sees hJ.j.out)⟩
abbrev rY (l:List Int):List (List Value):=l.map λ(k:Int)=>[Value.int .i64 k]
theorem rk_set (l:List Int) (i:Nat) (v:Int):(rY l).set i [Vi v]=rY (l.set i v):=List.map_set.symm
theorem rk_get {l:List Int} {i:Nat} (h:i < l.length):(rY l)[i]?=some [Vi (l.getD i 0)]:=by
 show (l.map _)[i]?=_;rw [Nj,Gj h,Uk,Gj h]; rfl
theorem mostA_cons (out:List Int) (a:Int) (k:Nat) (l:List Nat):nW out a (k :: l)=if out.getD k 0 < 0 then -1 else nW out (max a (out.getD k 0 + 1)) l:=rfl
theorem mostA_bd {out:List Int} {B:Int} (hB:∀ j,out.getD j 0 <= B):∀ (l:List Nat) (a:Int),0 <= a -> nW out a l <= max a (B + 1) /\ -1 <= nW out a l
 | [],a,h=>by unfold nW; omega
 | k :: l,a,h=>by
  unfold nW
  split
  ·omega
  ·have h1:=mostA_bd hB l (max a (out.getD k 0 + 1)) (by omega)
   have:=hB k
   omega
theorem step_bd {need:List (List Nat)} {out:List Int} {B:Int} (h0:0 <= B) (hB:∀ j,-1 <= out.getD j 0 /\ out.getD j 0 <= B) (i:Nat) (j:Nat) : -1 <= (rkStep need out i).getD j 0 /\ (rkStep need out i).getD j 0 <= B + 1:=by
 have hj:=hB j;unfold rkStep
 by_cases hi:i < out.length
 ·rw [getD_set hi]
  split
  ·have h1:=mostA_bd (λj=>(hB j).2) (need.getD i []) 0 (Sq _)
   have:=hB i
   omega
  ·omega
 ·rw [List.set_eq_of_length_le (by omega)]; omega
theorem round_bd {need:List (List Nat)} {out:List Int} {B:Int} (h0:0 <= B) (hB:∀ j,-1 <= out.getD j 0 /\ out.getD j 0 <= B):∀ (i:Nat) (j:Nat),-1 <= (sY need out i).getD j 0 /\ (sY need out i).getD j 0 <= B + i
 | 0,j=>by have:=hB j; rw [sY]; omega
 | i + 1,j=>by
  have:=step_bd (need:=need) (out:=sY need out i) (B:=B + i) (by omega) (round_bd (need:=need) (out:=out) h0 hB i) i j
  rw [sY];omega
theorem ranks_bd (need:List (List Nat)):∀ (t:Nat) (j:Nat),-1 <= (lY need t).getD j 0 /\ (lY need t).getD j 0 <= ((t * need.length:Nat):Int)
 | 0,j=>by
  rw [lY,Uk,List.getElem?_replicate]
  split <;> simp
 | t + 1,j=>by
  have:=round_bd (need:=need) (B:=((t * need.length:Nat):Int)) (by omega) (ranks_bd need t) need.length j
  rw [lY,Wq];omega
theorem ranks_any (need:List (List Nat)) (A:Option Addr) (cap:Nat) (us:List Value) (h:Vw) (hr:RS h 1 (.slice A need.length cap) (us.map λu=>[u])) (hn:NeedAll h need us) (hlen:need.length <= 14) (hb:∀ l∈need,l.length <= 1000 /\ ∀ k∈l,k < need.length) :
  C0 Tryz.prog 114 #[.slice A need.length cap] h (λr h'=>∃ b,r=.slice (some ⟨b,0,none⟩) need.length need.length /\ RS h' 1 r (rY (lY need need.length))):=by
 have hul:=hn.len;have hrl:=ranks_len need;have hol:=λt i=>(round_len need (lY need t) i).trans (ranks_len need t);have hbd:∀ t,t <= 14 -> ∀ i,i <= 14 -> ∀ j,-1 <= (sY need (lY need t) i).getD j 0 /\ (sY need (lY need t) i).getD j 0 <= 1000:=λt ht i hi j=>by
  have h1:=round_bd (need:=need) (B:=((t * need.length:Nat):Int)) (by omega) (ranks_bd need t) i j;have h2:t * need.length <= 14 * 14:=Nat.mul_le_mul ht hlen;omega
 have hst:∀ t i,sY need (lY need t) (i + 1)=(sY need (lY need t) i).set i (max ((sY need (lY need t) i).getD i 0) (nW (sY need (lY need t) i) 0 (need.getD i []))):=λt i=>rfl;have hrd:∀ t,sY need (lY need t) need.length=lY need (t + 1):=λt=>rfl;have h00:lY need 0=List.replicate need.length (-1):=rfl;have hr0:∀ t,sY need (lY need t) 0=lY need t:=λt=>rfl;have hz:List.replicate need.length [Value.int .i64 0]=rY (List.replicate need.length 0):=by show _=List.map _ _; rw [List.map_replicate]
 generalize hL:need.length=n at *;refine wQ Tryz.func114 (c:=Tryz.f114.body.getD .skip) (N:=64) ?_;intro hbx hbad Q hQ;refine go0 9 [] [] ?_;refine g_make1 (t:=72) (e:=3) (z:=Vi 0) (x:=(.tmp 11)) (by_:=8) (m:=n) (by kernel_rfl) Tryz.underlying72 (by kernel_rfl) rfl (by omega) (by omega) (by simp only [maxLen]; omega) ?_; intro bo;refine go0 12 [] [] ?_;rw [hz];refine eV [0,1,0,1,1] [.block 0,.seq [1,1,1]] (λ(i:Nat) X=>∃ (W2:Vw) (ro:List Int),X W2 [(0,.slice A n cap),(3,Vs bo n n),(14,Vi (n:Int)),(15,Vi (i:Int))] [.row (Vs bo n n) 3 1 (rY ro)] [] /\ Sees h W2 /\ (i <= n) /\ (ro=List.replicate i (-1)++List.replicate (n - i) 0)) (λi=>n - i) (0) (λX q=>⟨h,List.replicate n 0,q _ _ _ _ ⟨rfl,by kernel_rfl⟩,Sees.refl _,Kj _,by simp⟩) ?_;rintro i a w ⟨W2,ro,hJ,S3,hi,hro⟩; refine jV hJ ?_; clear hJ a w;refine go0 6 [] [] ?_;rcases (by omega:i < n\/i=n) with hlt | hke
 ·have hol2:ro.length=n:=by rw [hro,Bk,Ew,Ew]; omega
  have hrow:=rk_get (l:=ro) (i:=i) (by omega);have hnx:ro.set i (-1)=List.replicate (i + 1) (-1)++List.replicate (n - (i + 1)) 0:=by
   rw [hro,List.set_append_right _ _ (by simp),Ew,Nat.sub_self,show n - i=(n - (i + 1)) + 1 by omega,List.replicate_succ,List.set_cons_zero,List.replicate_succ',Yk]; rfl
  refine oV (t:=decide ((i:Int) < (n:Int))) (Mj (by omega)) ?_;refine go0 14 [.ix bo 0 n n i] [] ?_ (ho:=(Aj (by first | omega | (simp; omega)) (trivial)));refine g_rowset 0 i 0 (g:=bo) (m:=n) (cap:=n) (kk:=1) (e:=3) (l:=rY ro) (r:=[Vi (ro.getD i 0)]) (r':=[Vi (-1)]) (t:=3) (x:=(.tmp 20)) (y:=(.const (Vi (-1)))) (v:=Vi (-1)) (hrow) ?_;refine go0 7 [] [(21,Vi (IntKind.i64.wrap ((i:Int) + 1)),Vi ((i:Int) + 1))] ?_ (hc:=(Aj (jJ (by omega) (by omega)) (trivial)));refine cV [(0,.slice A n cap),(3,Vs bo n n),(14,Vi (n:Int)),(15,Vi ((i:Int) + 1))] [.row (Vs bo n n) 3 1 ((rY ro).set i [Vi (-1)])] [] ?_;exact nV (i + 1) (λX q=>⟨W2,ro.set i (-1),q _ _ _ _ (aZ (by rw [rk_set])),S3,by omega,hnx⟩) (by omega)
 ·skip;have hro2:ro=lY need 0:=by rw [hro,h00,hke,Nat.sub_self]; simp
  rw [hro2];refine yQ (t:=decide ((i:Int) < (n:Int))) (Jj (by omega)) ?_;refine go0 2 [] [] ?_;refine dV ?_;refine go0 11 [] [] ?_;refine eV [0,1,0,1,1,1] [.block 2,.seq [1,1,1,1]] (λ(t:Nat) X=>∃ (W4:Vw) ,X W4 [(0,.slice A n cap),(3,Vs bo n n),(23,Vi (n:Int)),(24,Vi (t:Int))] [.row (Vs bo n n) 3 1 (rY (lY need t))] [] /\ Sees W2 W4 /\ (t <= n)) (λt=>n - t) (0) (λX q=>⟨W2,q _ _ _ _ ⟨rfl,by kernel_rfl⟩,Sees.refl _,Kj _⟩) ?_;rintro t a w ⟨W4,hJ,S5,ht⟩; refine jV hJ ?_; clear hJ a w;refine go0 6 [] [] ?_;rcases (by omega:t < n\/t=n) with htl | hte
  ·refine oV (t:=decide ((t:Int) < (n:Int))) (Mj (by omega)) ?_;refine go0 12 [] [] ?_;refine eV [0,1,0,0,1,1,0,0,1,0,1,1,1] [.block 4,.block 3,.seq [1,1,1,0,0,1,0,1,1,1]] (λ(i2:Nat) X=>∃ (W6:Vw) ,X W6 [(0,.slice A n cap),(3,Vs bo n n),(23,Vi (n:Int)),(24,Vi (t:Int)),(26,.slice A n cap),(27,Vi (n:Int)),(28,Vi (i2:Int))] [.row (Vs bo n n) 3 1 (rY (sY need (lY need t) i2))] [] /\ Sees W4 W6 /\ (i2 <= n)) (λi2=>n - i2) (0) (λX q=>⟨W4,q _ _ _ _ ⟨rfl,by kernel_rfl⟩,Sees.refl _,Kj _⟩) ?_;rintro i2 a w ⟨W6,hJ,S7,hi2⟩; refine jV hJ ?_; clear hJ a w;refine go0 6 [] [] ?_;rcases (by omega:i2 < n\/i2=n) with hil | hie
   ·have ho:=hol t i2;have hb2:=hbd t (by omega) i2 (by omega);have hsx:=hst t i2;generalize sY need (lY need t) i2=o at *;obtain ⟨l,hl⟩:∃ l,need[i2]?=some l:=⟨_,Gj (by omega)⟩;obtain ⟨u,hu⟩:∃ u,us[i2]?=some u:=⟨_,Gj (by omega)⟩;have hlg:need.getD i2 []=l:=by rw [Uk,hl]; rfl
    rw [hlg] at hsx;obtain ⟨hll,hlk⟩:=hb l (Dj hl);have hlr:=NeedAll.get hn hl hu;obtain ⟨Au,cu,rfl,-,-,-⟩:=hlr.form;have hlm:(sW l).length=l.length:=by simp
    rw [hlm] at hlr hu;have hrow:(us.map λu=>[u])[i2]?=some [.slice Au l.length cu]:=by rw [Nj,hu]; rfl
    have hrowi:=rk_get (l:=o) (i:=i2) (by omega);refine oV (t:=decide ((i2:Int) < (n:Int))) (Mj (by omega)) ?_;refine go0 7 [] [] ?_;obtain ⟨b8,o9,rfl,-,c10⟩:=RS.row hr (hrow);refine xQ (c10.sees (S3.trans (S5.trans S7))) ?_;refine go0 20 [.ix b8 o9 n cap i2,.f 0 0] [] ?_ (ho:=(Aj (by first | omega | (simp; omega)) (trivial)));refine eV [0,1,0,1,1,0,0,1,1,0,0,1,0,0,1,1,0,0,1,0,1,1,1] [.block 6,.seq [1,1,1,0,0,1,1,0,0,1,0,0,1,1,0,0,1,0,1,1,1],.block 5,.seq [1,1,1,0,0,1,0,0,1,1,0,0,1,0,1,1,1]] (λ(j:Nat) X=>∃ (W11:Vw) (a0:Int),X W11 [(0,.slice (some ⟨b8,o9,none⟩) n cap),(3,Vs bo n n),(23,Vi (n:Int)),(24,Vi (t:Int)),(26,.slice (some ⟨b8,o9,none⟩) n cap),(27,Vi (n:Int)),(28,Vi (i2:Int)),(5,Vi (i2:Int)),(33,.slice Au l.length cu),(34,Vi (l.length:Int)),(35,Vi (j:Int)),(7,Vi a0)] [.row (Vs bo n n) 3 1 (rY o)] [(b8,o9 + i2 * 1,[.slice Au l.length cu])] /\ Sees W6 W11 /\ (j <= l.length) /\ (0 <= a0) /\ (a0 <= 2000) /\ (nW o 0 l=nW o a0 (l.drop j))) (λj=>l.length - j) (0) (λX q=>⟨W6,0,q _ _ _ _ ⟨rfl,by kernel_rfl⟩,Sees.refl _,Kj _,Sq _,by omega,rfl⟩) ?_;rintro j a w ⟨W11,a0,hJ,S12,hj,ha0,ha1,hma⟩; refine jV hJ ?_; clear hJ a w;refine go0 6 [] [] ?_;rcases (by omega:j < l.length\/j=l.length) with hjl | hje
    ·obtain ⟨k,hk⟩:∃ k,l[j]?=some k:=⟨_,Gj (by omega)⟩;have hkn:=hlk k (Dj hk);have hrj:(sW l)[j]?=some [Vi (k:Int)]:=by show (l.map _)[j]?=_; rw [Nj,hk]; rfl
     have hrk:=rk_get (l:=o) (i:=k) (by omega);have hd:l.drop j=k :: l.drop (j + 1):=by
      have hx:=Oj.1 hk;obtain ⟨h1,h2⟩:=hx;rw [<- h2]; exact Fw h1
     have hbk:=hb2 k;have hbi:=hb2 i2;rw [hd,mostA_cons] at hma
     by_cases q:o.getD k 0 < 0
     ·rw [Cj q] at hma;rw [hma] at hsx;refine oV (t:=decide ((j:Int) < (l.length:Int))) (Mj (by omega)) ?_;refine go0 6 [] [] ?_;obtain ⟨b13,o14,rfl,-,c15⟩:=RS.row hlr (hrj);refine xQ (c15.sees (S3.trans (S5.trans (S7.trans S12)))) ?_;refine go0 11 [.ix b13 o14 l.length cu j,.f 0 0,.ix bo 0 n n k] [] ?_ (ho:=(Aj (by first | omega | (simp; omega)) (Aj (by first | omega | (simp; omega)) (trivial))));refine g_rowget 0 k 0 (g:=bo) (m:=n) (cap:=n) (kk:=1) (e:=3) (l:=rY o) (r:=[Vi (o.getD k 0)]) (t:=3) (x:=(.tmp 41)) (v:=Vi (o.getD k 0)) (hrk) ?_;refine go0 3 [] [] ?_;refine oV (t:=decide ((o.getD k 0) < 0)) (Mj q) ?_;refine go0 9 [] [] ?_;refine dV ?_;refine go0 8 [.ix bo 0 n n i2] [] ?_ (ho:=(Aj (by first | omega | (simp; omega)) (trivial)));refine g_rowget 0 i2 0 (g:=bo) (m:=n) (cap:=n) (kk:=1) (e:=3) (l:=rY o) (r:=[Vi (o.getD i2 0)]) (t:=3) (x:=(.tmp 56)) (v:=Vi (o.getD i2 0)) (hrowi) ?_;refine go0 3 [.ix bo 0 n n i2] [(59,Vi (if (-1:Int) > (o.getD i2 0) then (-1:Int) else (o.getD i2 0)),Vi (max (o.getD i2 0) (-1)))] ?_ (ho:=(Aj (by first | omega | (simp; omega)) (trivial))) (hc:=(Aj (Ej (Value.int .i64) (by split <;> omega)) (trivial)));refine g_rowset 0 i2 0 (g:=bo) (m:=n) (cap:=n) (kk:=1) (e:=3) (l:=rY o) (r:=[Vi (o.getD i2 0)]) (r':=[Vi (max (o.getD i2 0) (-1))]) (t:=3) (x:=(.tmp 60)) (y:=(.tmp 59)) (v:=Vi (max (o.getD i2 0) (-1))) (hrowi) ?_;refine go0 7 [] [(61,Vi (IntKind.i64.wrap ((i2:Int) + 1)),Vi ((i2:Int) + 1))] ?_ (hc:=(Aj (jJ (by omega) (by omega)) (trivial)));refine cV [(0,.slice (some ⟨b8,o9,none⟩) n cap),(3,Vs bo n n),(23,Vi (n:Int)),(24,Vi (t:Int)),(26,.slice (some ⟨b8,o9,none⟩) n cap),(27,Vi (n:Int)),(28,Vi ((i2:Int) + 1))] [.row (Vs bo n n) 3 1 ((rY o).set i2 [Vi (max (o.getD i2 0) (-1))])] [] ?_;exact nV (i2 + 1) (λX q=>⟨W11,q _ _ _ _ (aZ (by rw [hsx,rk_set])),(S7.trans S12),by omega⟩) (by omega)
     ·skip;rw [Bj q] at hma
      refine oV (t:=decide ((j:Int) < (l.length:Int))) (Mj (by omega)) ?_;refine go0 6 [] [] ?_;obtain ⟨b16,o17,rfl,-,c18⟩:=RS.row hlr (hrj);refine xQ (c18.sees (S3.trans (S5.trans (S7.trans S12)))) ?_;refine go0 11 [.ix b16 o17 l.length cu j,.f 0 0,.ix bo 0 n n k] [] ?_ (ho:=(Aj (by first | omega | (simp; omega)) (Aj (by first | omega | (simp; omega)) (trivial))));refine g_rowget 0 k 0 (g:=bo) (m:=n) (cap:=n) (kk:=1) (e:=3) (l:=rY o) (r:=[Vi (o.getD k 0)]) (t:=3) (x:=(.tmp 41)) (v:=Vi (o.getD k 0)) (hrk) ?_;refine go0 3 [] [] ?_;refine yQ (t:=decide ((o.getD k 0) < 0)) (Jj q) ?_;refine go0 7 [.ix bo 0 n n k] [] ?_ (ho:=(Aj (by first | omega | (simp; omega)) (trivial)));refine g_rowget 0 k 0 (g:=bo) (m:=n) (cap:=n) (kk:=1) (e:=3) (l:=rY o) (r:=[Vi (o.getD k 0)]) (t:=3) (x:=(.tmp 47)) (v:=Vi (o.getD k 0)) (hrk) ?_;refine go0 10 [] [(49,Vi (IntKind.i64.wrap (o.getD k 0 + 1)),Vi (o.getD k 0 + 1)),(50,Vi (if (o.getD k 0 + 1) > a0 then (o.getD k 0 + 1) else a0),Vi (max a0 (o.getD k 0 + 1))),(51,Vi (IntKind.i64.wrap ((j:Int) + 1)),Vi ((j:Int) + 1))] ?_ (hc:=(Aj (jJ (by omega) (by omega)) (Aj (Ej (Value.int .i64) (by split <;> omega)) (Aj (jJ (by omega) (by omega)) (trivial)))));exact nV (j + 1) (λX q=>⟨W11,max a0 (o.getD k 0 + 1),q _ _ _ _ ⟨rfl,by kernel_rfl⟩,S12,by omega,by omega,by omega,hma⟩) (by omega)
    ·skip;have hma2:nW o 0 l=a0:=by rw [hma,hje,List.drop_length]; rfl
     rw [hma2] at hsx;have hbi:=hb2 i2;refine yQ (t:=decide ((j:Int) < (l.length:Int))) (Jj (by omega)) ?_;refine go0 2 [] [] ?_;refine dV ?_;refine go0 8 [.ix bo 0 n n i2] [] ?_ (ho:=(Aj (by first | omega | (simp; omega)) (trivial)));refine g_rowget 0 i2 0 (g:=bo) (m:=n) (cap:=n) (kk:=1) (e:=3) (l:=rY o) (r:=[Vi (o.getD i2 0)]) (t:=3) (x:=(.tmp 56)) (v:=Vi (o.getD i2 0)) (hrowi) ?_;refine go0 3 [.ix bo 0 n n i2] [(59,Vi (if a0 > (o.getD i2 0) then a0 else (o.getD i2 0)),Vi (max (o.getD i2 0) a0))] ?_ (ho:=(Aj (by first | omega | (simp; omega)) (trivial))) (hc:=(Aj (Ej (Value.int .i64) (by split <;> omega)) (trivial)));refine g_rowset 0 i2 0 (g:=bo) (m:=n) (cap:=n) (kk:=1) (e:=3) (l:=rY o) (r:=[Vi (o.getD i2 0)]) (r':=[Vi (max (o.getD i2 0) a0)]) (t:=3) (x:=(.tmp 60)) (y:=(.tmp 59)) (v:=Vi (max (o.getD i2 0) a0)) (hrowi) ?_;refine go0 7 [] [(61,Vi (IntKind.i64.wrap ((i2:Int) + 1)),Vi ((i2:Int) + 1))] ?_ (hc:=(Aj (jJ (by omega) (by omega)) (trivial)));refine cV [(0,.slice (some ⟨b8,o9,none⟩) n cap),(3,Vs bo n n),(23,Vi (n:Int)),(24,Vi (t:Int)),(26,.slice (some ⟨b8,o9,none⟩) n cap),(27,Vi (n:Int)),(28,Vi ((i2:Int) + 1))] [.row (Vs bo n n) 3 1 ((rY o).set i2 [Vi (max (o.getD i2 0) a0)])] [] ?_;exact nV (i2 + 1) (λX q=>⟨W11,q _ _ _ _ (aZ (by rw [hsx,rk_set])),(S7.trans S12),by omega⟩) (by omega)
   ·skip;refine yQ (t:=decide ((i2:Int) < (n:Int))) (Jj (by omega)) ?_
    refine go0 2 [] [] ?_;refine dV ?_;refine go0 7 [] [(62,Vi (IntKind.i64.wrap ((t:Int) + 1)),Vi ((t:Int) + 1))] ?_ (hc:=(Aj (jJ (by omega) (by omega)) (trivial)));refine cV [(0,.slice A n cap),(3,Vs bo n n),(23,Vi (n:Int)),(24,Vi ((t:Int) + 1))] [.row (Vs bo n n) 3 1 (rY (sY need (lY need t) i2))] [] ?_;exact nV (t + 1) (λX q=>⟨W6,q _ _ _ _ (aZ (by rw [hie,hrd])),(S5.trans S7),by omega⟩) (by omega)
  ·skip;refine yQ (t:=decide ((t:Int) < (n:Int))) (Jj (by omega)) ?_
   refine go0 2 [] [] ?_;refine dV ?_;refine go0 9 [] [] ?_;refine cV [(2,Vs bo n n)] [.row (Vs bo n n) 3 1 (rY (lY need t))] [] ?_;refine hQ.toJ [Vs bo n n] [] (λa w hJ=>?_);have fr:=hJ.j.rowOut0 (v:=Vs bo n n) (e:=3) (k:=1) (l:=rY (lY need t)) 0 (by kernel_rfl) rfl;exact ⟨bo,rfl,by rw [hte] at fr; exact fr⟩
end Go.Proofs.YthplkompdehjlaaGreat
