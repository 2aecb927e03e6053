/-
  Types of formulas, in plain words.
-/
import Derived.Test.YtjpgjnldeafpkaaGreatZD27
import Derived.Test.YtjpgjnldeafpkaaGreatZD9
import Derived.Test.YtjpgjnldeafpkaaGreatZD8
import Derived.Test.YtjpgjnldeafpkaaGreatZD19
import Derived.Test.YtjpgjnldeafpkaaGreatZD28
import Derived.Test.YtjpgjnldeafpkaaGreatZD5
set_option maxRecDepth 100000
namespace Go.Proofs.YtjpgjnldeafpkaaGreat
open Go.RowKit
def ruleT (op:Int):Option (List Int × Int) :=
 if op=3 then some ([1],1) else if op=4 then some ([2],2) else if op=18 then some ([3],1)
 else if 5≤op∧op≤9 then some ([1,1],1) else if op=10 then some ([3,3],3) else if op=15∨op=16 then some ([2,2],2) else none
def opTy (op:Int) (l:List Int):Int × Int :=
 match ruleT op with
 | some (a,t)=>if l=a then (t,0) else (0,9)
 | none=>if op=17 then (if l.getD 0 0=2∧l.getD 1 0=l.getD 2 0 then (l.getD 1 0,0) else (0,9)) else if l.getD 0 0=l.getD 1 0 then (2,0) else (0,9)
mutual
def tyE (f:ByteArray→Option Int):Ex→Int × Int
 | .mk op k _ _ nm args =>
  if op=1 then (k,0)
  else if op=2 then (match f nm with | some t=>(t,0) | none=>(0,5))
  else if (tyL f args).2=0 then opTy op (tyL f args).1 else (0,(tyL f args).2)
def tyL (f:ByteArray→Option Int):List Ex→List Int × Int
 | []=>([],0)
 | x :: l=>if (tyE f x).2=0 then (if (tyL f l).2=0 then ((tyE f x).1 :: (tyL f l).1,0) else ([],(tyL f l).2)) else ([],(tyE f x).2)
end
theorem tyE_eq (f:ByteArray→Option Int) (x:Ex):tyE f x =
  if x.op=1 then ((x.k:Int),(0:Int))
  else if x.op=2 then (match f x.nm with | some t=>((t:Int),(0:Int)) | none=>(0,5))
  else if (tyL f x.args).2=0 then opTy x.op (tyL f x.args).1 else (0,(tyL f x.args).2):=by
 obtain ⟨a,b,c,d,e,l⟩:=x
 rw [tyE]; rfl
def tyF (fs:List Fd) (s:ByteArray):Option Int:=match fs with
 | []=>none
 | f :: l=>if s == f.name then some f.ty else tyF l s
theorem ty_leaf {fs:List Fd} {g:ByteArray→Option Int} (hf:∀ f∈fs,g f.name=some f.ty) (r:RawD) (kind:Int):tyE g (dW r fs kind)=(kind,0):=by
 have hc:tyE g (iK kind r)=(kind,0):=by rw [tyE_eq,if_pos (show (iK kind r).op=1 from rfl)]; rfl
 unfold dW
 split
 ·rename_i s hs
  split
  ·exact hc
  ·have hm:=List.mem_of_getElem? hs
   obtain ⟨f,hfm,rfl⟩:=List.mem_map.1 hm
   obtain ⟨h1,h2⟩:=List.mem_filter.1 hfm
   rw [tyE_eq,if_neg (show ¬ (refE f.name).op=1 by show ¬ (2:Int)=1; decide),if_pos (show (refE f.name).op=2 from rfl)]
   have e:(refE f.name).nm=f.name:=rfl
   rw [e,hf f h1]
   simp at h2
   simp [h2]
 ·exact hc
theorem many_types {f:ByteArray→Option Int} {one:Int→Nat→Ex × Nat}:∀ (ks:List Int) (n:Nat),(∀ k∈ks,∀ n,tyE f (one k n).1=(k,0))→tyL f (dJ one ks n).1=(ks,0)
 | [],n,_=>by rw [show (dJ one [] n).1=[] from rfl,tyL]
 | k :: ks,n,h=>by
  have h1:=h k (by simp) n
  have h2:=many_types (f:=f) ks (one k n).2 (fun k' hk=>h k' (by simp [hk]))
  rw [show (dJ one (k :: ks) n).1=(one k n).1 :: (dJ one ks (one k n).2).1 from rfl,tyL,h1,h2]
  simp
theorem pick_type (r:RawD) (kind:Int) (h1:1≤kind) (h3:kind≤3):opTy (kX r kind).1 (kX r kind).2=(kind,0):=by
 have a0:=nX r.a 6 (by omega)
 have b0:=nX r.b 7 (by omega)
 have b1:=mX r.b 7 (by omega)
 have c0:=nX r.a 3 (by omega)
 have c1:=mX r.a 3 (by omega)
 unfold kX
 split
 ·simp [opTy,ruleT]
 ·split
  ·rename_i hk
   split
   ·simp [opTy,ruleT,hk]
   ·split
    ·simp [opTy,ruleT,hk]
    ·have hb:intOps (cJ r.b 7)=5∨intOps (cJ r.b 7)=6∨intOps (cJ r.b 7)=7∨intOps (cJ r.b 7)=8∨intOps (cJ r.b 7)=9:=by
      unfold intOps
      repeat' split
      all_goals omega
     simp only
     rcases hb with h | h | h | h | h <;> (rw [h]; simp [opTy,ruleT,hk])
  ·split
   ·rename_i hk
    split
    ·simp [opTy,ruleT,hk]
    ·split
     ·have hb:cJ r.b 7=1∨cJ r.b 7=2:=by omega
      simp only
      rcases hb with h | h <;> (rw [h]; simp [opTy,ruleT,hk])
     ·have hb:cJ r.b 7=3∨cJ r.b 7=4∨cJ r.b 7=5∨cJ r.b 7=6:=by omega
      simp only
      rcases hb with h | h | h | h <;> (rw [h]; simp [opTy,ruleT,hk])
   ·have hk:kind=3:=by omega
    simp [opTy,ruleT,hk]
theorem ty_op {f:ByteArray→Option Int} {op:Int} {l:List Ex} {ts:List Int} (h1:op≠1) (h2:op≠2) (h:tyL f l=(ts,0)):tyE f (opE op l)=opTy op ts:=by
 rw [tyE_eq,if_neg (show ¬ (opE op l).op=1 from h1),if_neg (show ¬ (opE op l).op=2 from h2)]
 show (if (tyL f l).2=0 then opTy op (tyL f l).1 else (0,(tyL f l).2))=_
 rw [h]; simp
theorem ty_gen {fs:List Fd} {g:ByteArray→Option Int} (hf:∀ f∈fs,g f.name=some f.ty) (l:List RawD):∀ (d:Nat) (kind:Int) (n:Nat),1≤kind→kind≤3→tyE g (gJ l fs d kind n).1=(kind,0)
 | 0,kind,n,h1,h3=>ty_leaf hf _ _
 | d + 1,kind,n,h1,h3=>by
  by_cases q:cJ (aJ l n).k 3=0
  ·rw [genE_leaf q]; exact ty_leaf hf _ _
  ·obtain ⟨p1,p2,p3,p4⟩:=pickE_ok (aJ l n) kind h1 h3
   have hpt:=pick_type (aJ l n) kind h1 h3
   obtain ⟨op,ks,hp⟩:∃ op ks,kX (aJ l n) kind=(op,ks):=⟨(kX (aJ l n) kind).1,(kX (aJ l n) kind).2,by cases kX (aJ l n) kind; rfl⟩
   rw [nV q hp]
   rw [hp] at p1 p2 p4 hpt
   simp only at p1 p2 p4 hpt
   exact (ty_op (by omega) (by omega) (many_types ks _ (fun k hk n=>ty_gen hf l d k n (p4 k hk).1 (p4 k hk).2))).trans hpt
end Go.Proofs.YtjpgjnldeafpkaaGreat
namespace Go.Proofs.YtjpgjnldeafpkaaGreat
open Go.RowKit Go.Shelf
attribute [local go_sem] Oper.semAt_some
def zF:Fd:=⟨⟨#[]⟩,0,0,zE⟩
@[reducible] def fdVal (f:Fd) (v:Value):Value:=.agg #[.string f.name,.int .i64 f.kind,.int .i64 f.ty,.int .i64 f.src.op,.int .i64 f.src.k,.int .i64 f.src.n,.string f.src.s,.string f.src.nm,v]
def dn (len c:Nat):List Nat:=(List.range c).map fun j=>len - 1 - j
theorem dn_succ (len c:Nat):dn len (c + 1)=dn len c++[len - 1 - c]:=by simp [dn,List.range_succ]
theorem dn_len (len c:Nat):(dn len c).length=c:=by simp [dn]
set_option maxHeartbeats 2000000 in
theorem back_in (A:Option Addr) (len cap:Nat) (n:Nat) (W:World) :
  CallsIn Fence.wide n Tryz.prog 192 #[.slice A len cap] W fun e W'=>e=.returned (.func (.func 199) #[] #[.pointer (some ⟨W.heap.size,0,none⟩)])∧W'=W.alloc (.cells #[.slice A len cap] 23):=by
 refine callsIn_of_wp Tryz.func192 rfl trivial ?_ rfl
 simp only [Tryz.ntmps192,List.size_toArray,List.length_cons,List.length_nil,Nat.reduceAdd,Nat.reduceSub,Array.replicate_succ,Array.replicate_zero,List.push_toArray,List.append_toArray,List.nil_append,List.cons_append]
 gi_wp2
 go_ret
 exact ⟨rfl,rfl⟩
set_option maxHeartbeats 4000000 in
theorem back_stops (fs:List Fd) (vs:List Value) (A:Option Addr) (cap:Nat) (h:Vw) (hr:RS h 9 (.slice A fs.length cap) (aQ fs vs)) (hvl:vs.length=fs.length) (hsl:∀ v∈vs,.slice (sA v) (sN v) (sC v)=v) (n bX:Nat) (w:World) (hb:Below h.w.heap.size h.w w) (hX:w.heap[bX]?=some (.cells #[.slice A fs.length cap] 23 (0,0))) :
  SeqStopsK Fence.wide n Tryz.prog 199 #[.pointer (some ⟨bX,0,none⟩)] (fun i:Nat=>#[.int .i64 (i:Int),fdVal (fs.getD i zF) (.slice (sA (vs.getD i undef)) (sN (vs.getD i undef)) (sC (vs.getD i undef)))]) (Kp h.w.heap.size) (fun ys=>ys=dn fs.length fs.length) (fun _=>True) fs.length w:=fun l J Jx W hW hJ hJx hY h0=>by
 have hbW:Below h.w.heap.size h.w W:=hb.trans (hW.mono hb.size)
 have hX':W.heap[bX]?=some (.cells #[.slice A fs.length cap] 23 (0,0)):=(hW.block bX (Array.getElem?_eq_some_iff.1 hX).1).trans hX
 have bX':Boxed W bX 23 (.slice A fs.length cap):=hX'
 have cX:=bX'.cell
 obtain ⟨A',cap',e,hc1,hc2,-⟩:=hr.form
 rw [cQ hvl] at e hc1
 simp only [Value.slice.injEq] at e
 obtain ⟨rfl,-,rfl⟩:=e
 have HR:=Lib.hid hr
 have HV:=Lib.hid hvl
 have HS:=Lib.hid hsl
 have HB:=Lib.hid hbW
 have HY:=Lib.hid hY
 have HX:=Lib.hid bX'
 clear hr hvl hsl hbW hb hX hX' hW hY bX'
 unfold maxLen at hc2
 generalize hL:fs.length=len at *
 refine callsIn_of_wp Tryz.func199 rfl trivial ?_ rfl
 simp only [Tryz.ntmps199,List.size_toArray,List.length_cons,List.length_nil,Nat.reduceAdd,Nat.reduceSub,Array.replicate_succ,Array.replicate_zero,List.push_toArray,List.append_toArray,List.nil_append,List.cons_append]
 gi_wp2
 gi_loopw [3] (fun i wr=>∃ k:Nat,k≤len∧i=.int .i64 ((len:Int) - 1 - k)∧J (dn len k) wr∧Kp h.w.heap.size W wr) (fun i _=>(intOf i + 1).toNat)
 case atStart=>exact ⟨0,Nat.zero_le _,by go_num,by simpa [dn] using h0,Kp.refl _ _⟩
 case round =>
  obtain ⟨k,hk,rfl,hjk,hkk⟩:=hrel
  by_cases hlt:k < len
  ·obtain ⟨m,hm⟩:∃ m:Nat,len=m + 1 + k:=⟨len - 1 - k,by omega⟩
   have hi:(len:Int) - 1 - k=(m:Int):=by omega
   rw [hi]
   have hml:m < len:=by omega
   obtain ⟨f,hf⟩:∃ f,fs[m]?=some f:=⟨_,List.getElem?_eq_getElem (by omega)⟩
   obtain ⟨u,hu⟩:∃ u,vs[m]?=some u:=⟨_,List.getElem?_eq_getElem (by have:=HV.out; omega)⟩
   have hrow:=bQ hf hu
   have hrw:=HR.out
   obtain ⟨b,off,e,-,hc⟩:=hrw.row hrow
   subst e
   have hbr:=HB.out.trans hkk.below
   have hc:=hc.sees (sees_below hbr)
   have c0:wr.cell? ⟨b,off + m * 9,none⟩=_:=hc.lies 0 _ rfl
   have c1:wr.cell? ⟨b,off + m * 9 + 1,none⟩=_:=hc.lies 1 _ rfl
   have c2:wr.cell? ⟨b,off + m * 9 + 2,none⟩=_:=hc.lies 2 _ rfl
   have c3:wr.cell? ⟨b,off + m * 9 + 3,none⟩=_:=hc.lies 3 _ rfl
   have c4:wr.cell? ⟨b,off + m * 9 + 4,none⟩=_:=hc.lies 4 _ rfl
   have c5:wr.cell? ⟨b,off + m * 9 + 5,none⟩=_:=hc.lies 5 _ rfl
   have c6:wr.cell? ⟨b,off + m * 9 + 6,none⟩=_:=hc.lies 6 _ rfl
   have c7:wr.cell? ⟨b,off + m * 9 + 7,none⟩=_:=hc.lies 7 _ rfl
   have c8:wr.cell? ⟨b,off + m * 9 + 8,none⟩=_:=hc.lies 8 _ rfl
   have cX:=(hkk.cells.boxed HX.out).cell
   obtain ⟨fn,tmps,assign,body,hy,hRd⟩:=HY.out (dn len k) m wr hjk (by rw [dn_len]; omega)
   have hR2:=hRd.mono (R':=fun e W2=>(e=.returned (.bool true)∧J (dn len (k + 1)) W2∧Kp h.w.heap.size W W2)∨(e=.returned (.bool false)∧Jx (dn len (k + 1)) W2))
    (fun e W2 q=>by
     rw [dn_succ,show len - 1 - k=m by omega]
     exact q.elim (fun ⟨a,b,c⟩=>.inl ⟨a,b,hkk.trans c⟩) .inr)
   have e1:fs.getD m zF=f:=by rw [List.getD_eq_getElem?_getD,hf]; rfl
   have e2:vs.getD m undef=u:=by rw [List.getD_eq_getElem?_getD,hu]; rfl
   have e3:=HS.out u (List.mem_of_getElem? hu)
   rw [e1,e2,e3] at hy
   have HJ:=Lib.hid hjk
   have HK:=Lib.hid hkk
   have HM:=Lib.hid hm
   clear hc hrow hrw hRd hjk hkk hf hu e1 e2 e3 hbr hi hm
   gi_wp2_with ((try refine ⟨jZ _,?_⟩); refine hR2.mono ?_; clear hR2; rintro e W2 (⟨rfl,hJ2,hk2⟩ | ⟨rfl,hx2⟩))
   ·go_roundw
    case rel=>exact ⟨k + 1,by omega,by have:=HM.out; go_num,hJ2,hk2⟩
    case measure=>simp [intOf] <;> omega
   ·(try simp only [Exit.inBlock,Exit.then]); refine bodyPost_ret (results_none rfl _ _ _) rfl ?_
    exact ⟨⟨_,rfl⟩,.inr ⟨_,trivial,hx2⟩⟩
  ·obtain rfl:k=len:=by omega
   have hi:(k:Int) - 1 - k = -1:=by omega
   rw [hi]
   clear hi
   gi_wp2
   go_end0
   exact ⟨⟨_,rfl⟩,.inl ⟨_,rfl,hjk⟩⟩
def lastT (fs:List Fd) (s:ByteArray) (pre:List Nat):Option Value:=pre.foldl (fun o i=>if s=(fs.getD i zF).name then some (.int .i64 (fs.getD i zF).ty) else o) none
theorem lastT_snoc (fs:List Fd) (s:ByteArray) (pre:List Nat) (i:Nat):lastT fs s (pre++[i])=if s=(fs.getD i zF).name then some (.int .i64 (fs.getD i zF).ty) else lastT fs s pre:=by
 unfold lastT
 rw [List.foldl_append]; rfl
theorem lastT_dn (fs:List Fd) (s:ByteArray):∀ c,c≤fs.length→lastT fs s (dn fs.length c)=(tyF (fs.drop (fs.length - c)) s).map (.int .i64)
 | 0,_=>by rw [Nat.sub_zero,List.drop_length]; rfl
 | c + 1,hc=>by
  rw [dn_succ,lastT_snoc,lastT_dn fs s c (by omega)]
  obtain ⟨f,hf⟩:∃ f,fs[fs.length - 1 - c]?=some f:=⟨_,List.getElem?_eq_getElem (by omega)⟩
  have e1:fs.getD (fs.length - 1 - c) zF=f:=by rw [List.getD_eq_getElem?_getD,hf]; rfl
  have e2:fs.drop (fs.length - (c + 1))=f :: fs.drop (fs.length - c):=by
   obtain ⟨hlt,he⟩:=List.getElem?_eq_some_iff.1 hf
   rw [show fs.length - (c + 1)=fs.length - 1 - c by omega,List.drop_eq_getElem_cons hlt,he,show fs.length - 1 - c + 1=fs.length - c by omega]
  rw [e1,e2]
  conv=>rhs; unfold tyF
  by_cases e:s=f.name
  ·rw [if_pos e,if_pos ((Go.MapKept.bytes_beq s f.name).2 e)]; rfl
  ·rw [if_neg e,if_neg (fun q=>e ((Go.MapKept.bytes_beq s f.name).1 q))]
set_option maxHeartbeats 4000000 in
theorem types_in (fs:List Fd) (vs:List Value) (A:Option Addr) (cap:Nat) (h:Vw) (hr:RS h 9 (.slice A fs.length cap) (aQ fs vs)) (hvl:vs.length=fs.length) (hsl:∀ v∈vs,.slice (sA v) (sN v) (sC v)=v) (n:Nat) (hn:3≤n) :
  CallsIn Fence.wide n Tryz.prog 162 #[.slice A fs.length cap] h.w (fun e W'=>e=.returned (.map (some h.w.heap.size))∧(∃ l,W'.heap[h.w.heap.size]?=some (gW (uY l))∧∀ s,sget s l=(tyF fs s).map (.int .i64))∧Below h.w.heap.size h.w W'):=by
 have h1:1≤n:=by omega
 obtain ⟨M,hM⟩:∃ M,M=h.w.heap.size:=⟨_,rfl⟩
 obtain ⟨W1,hW1⟩:∃ W1,W1=h.w.alloc (.map #[] 0):=⟨_,rfl⟩
 obtain ⟨W2,hW2⟩:∃ W2,W2=W1.alloc (.cells #[.map (some M)] 221):=⟨_,rfl⟩
 obtain ⟨W3,hW3⟩:∃ W3,W3=W2.alloc (.cells #[.slice A fs.length cap] 23):=⟨_,rfl⟩
 have z1:W1.heap.size=M + 1:=by rw [hW1,hM]; simp
 have z2:W2.heap.size=M + 1 + 1:=by rw [hW2,World.size_alloc,z1]
 have z3:W3.heap.size=M + 1 + 1 + 1:=by rw [hW3,World.size_alloc,z2]
 have m1:W1.heap[M]?=some (gW (uY [])):=by rw [hW1,hM]; exact (Go.MapKept.heap_alloc _ _).1
 have m2:W2.heap[M]?=some (gW (uY [])):=by rw [hW2]; exact ((Go.MapKept.heap_alloc _ _).2 _ (by omega)).trans m1
 have m3:W3.heap[M]?=some (gW (uY [])):=by rw [hW3]; exact ((Go.MapKept.heap_alloc _ _).2 _ (by omega)).trans m2
 have b2:Boxed W2 (M + 1) 221 (.map (some M)):=by rw [hW2,← z1]; exact Boxed.new _ _ _
 have b3:Boxed W3 (M + 1) 221 (.map (some M)):=by rw [hW3]; exact b2.alloc _
 have x3:W3.heap[M + 1 + 1]?=some (.cells #[.slice A fs.length cap] 23 (0,0)):=by rw [hW3,← z2]; exact World.alloc_heap_new _ _
 have hB3:Below M h.w W3:=by
  rw [hW3,hW2,hW1,hM]
  exact (((Below.refl _ h.w).alloc (Nat.le_refl _) _).alloc (by simp) _).alloc (by simp; omega) _
 refine callsIn_of_wp_marks Tryz.func162 rfl trivial ?_ rfl
 simp only [Tryz.ntmps162,List.size_toArray,List.length_cons,List.length_nil,Nat.reduceAdd,Nat.reduceSub,Array.replicate_succ,Array.replicate_zero,List.push_toArray,List.append_toArray,List.nil_append,List.cons_append]
 have HR:=Lib.hid hr
 have HV:=Lib.hid hvl
 have HS:=Lib.hid hsl
 have HX:=Lib.hid x3
 have HM3:=Lib.hid m3
 have HB:=Lib.hid hB3
 have HB3:=Lib.hid b3
 have HZ:=Lib.hid z3
 clear hr hvl hsl x3 m1 m2 m3 b2 b3 hB3 z1 z2 z3
 rw [← hM]
 gi_wp2
 simp only [run_makeMap,Result.andThen,← hM,← hW1]
 gi_wp2_with ((try refine ⟨trivial,?_⟩); (try refine ⟨jZ _,?_⟩); gi_at_call 192; refine (back_in A fs.length cap (n - 1) _).mono ?_; rintro e w' ⟨rfl,rfl⟩)
 rw [← hM,← hW1,← hW2,← hW3]
 clear hW1 hW2 hW3 W1 W2
 subst hM
 have hsz:=HZ.out
 clear HZ
 refine wpIn_rangeFunc_ownH (α:=Nat) rfl h1 (gf:=199) (lb:=#[.pointer (some ⟨h.w.heap.size + 1 + 1,0,none⟩)]) rfl trivial (enters_of Tryz.func199 (by kernel_rfl) rfl)
  (back_stops fs vs A cap h HR.out HV.out HS.out (n - 1) (h.w.heap.size + 1 + 1) W3 HB.out HX.out) kp_t (kp_b HB.out.size) (Below.refl _ _) (fun _=>rfl)
  (fun pre W=>((∃ l,W.heap[h.w.heap.size]?=some (gW (uY l))∧∀ s,sget s l=lastT fs s pre)∧Boxed W (h.w.heap.size + 1) 221 (.map (some h.w.heap.size)))∧Below h.w.heap.size h.w W)
  (fun _ _ W=>False∧Below h.w.heap.size h.w W)
  (OwnFrom.and (fun s A B row hs hg hr=>⟨by
    obtain ⟨l,h2,h3⟩:=hs.1
    exact ⟨l,(hg.block _ (Array.getElem?_eq_some_iff.1 h2).1 (fun e=>by have:=(hr _ e.symm).1; omega)).trans h2,h3⟩,hs.2.kept hg (cells_own hs.2 rfl (fun r e=>(hr r e).2))⟩) (ownFrom_below (Nat.le_refl _) (by omega)))
  (fun c=>OwnFrom.and (fun s A B row hs hg hr=>hs) (ownFrom_below (Nat.le_refl _) (by omega)))
  ⟨⟨⟨[],HM3.out,fun _=>rfl⟩,HB3.out⟩,HB.out⟩
  (fun i a' W=>∃ b,W.heap[b]?=some (.cells (fdRow (fs.getD i zF) (.slice (sA (vs.getD i undef)) (sN (vs.getD i undef)) (sC (vs.getD i undef)))).toArray 47 (0,0))∧a'={ tmps:=#[Value.slice A fs.length cap,undef,Value.map none,.pointer (some ⟨h.w.heap.size + 1,0,none⟩),undef,.pointer (some ⟨b,0,none⟩),.map (some h.w.heap.size),.slice A fs.length cap,.func (.func 199) #[] #[.pointer (some ⟨h.w.heap.size + 1 + 1,0,none⟩)],.int .i64 (i:Int),fdVal (fs.getD i zF) (.slice (sA (vs.getD i undef)) (sN (vs.getD i undef)) (sC (vs.getD i undef))),undef,undef,undef,undef,undef,undef],defers:=[] })
  (fun i a' s A B row hs hg hr=>by
   obtain ⟨b,h2,h3⟩:=hs
   refine ⟨b,(hg.block _ (Array.getElem?_eq_some_iff.1 h2).1 (fun e=>?_)).trans h2,h3⟩
   obtain ⟨-,o,ho,hc⟩:=hr _ e.symm
   rw [h2] at ho; cases ho; cases hc) ?assign ?body ?done ?stop
 case assign =>
  intro l pre i W K hI hK
  have hk0:=Kp.alloc hI.2.size (.cells (fdRow (fs.getD i zF) (.slice (sA (vs.getD i undef)) (sN (vs.getD i undef)) (sC (vs.getD i undef)))).toArray 47)
  have hb0:=hI.2.trans hk0.below
  have hI2:=(hI.1.2.alloc (.cells (fdRow (fs.getD i zF) (.slice (sA (vs.getD i undef)) (sN (vs.getD i undef)) (sC (vs.getD i undef)))).toArray 47))
  have hm2:(W.alloc (.cells (fdRow (fs.getD i zF) (.slice (sA (vs.getD i undef)) (sN (vs.getD i undef)) (sC (vs.getD i undef)))).toArray 47)).heap[h.w.heap.size]?=W.heap[h.w.heap.size]?:=(Go.MapKept.heap_alloc W _).2 _ (by
   obtain ⟨l,h2,-⟩:=hI.1.1
   exact (Array.getElem?_eq_some_iff.1 h2).1)
  have hx2:=World.alloc_heap_new W (.cells (fdRow (fs.getD i zF) (.slice (sA (vs.getD i undef)) (sN (vs.getD i undef)) (sC (vs.getD i undef)))).toArray 47)
  have HK:=hK _ _ ((KeepsOthers.alloc W (.cells (fdRow (fs.getD i zF) (.slice (sA (vs.getD i undef)) (sN (vs.getD i undef)) (sC (vs.getD i undef)))).toArray 47)).from _) hk0 ⟨⟨by rw [hm2]; exact hI.1.1,hI2⟩,hb0⟩ ⟨_,hx2,rfl⟩
  clear hK hI hk0 hb0 hI2 hm2 hx2
  generalize fs.getD i zF=f at *
  generalize vs.getD i undef=u at *
  gi_wp2
  exact HK
 case body =>
  rintro l pre i a' W hl - ⟨⟨⟨lm,hm,hg⟩,hbx⟩,hB⟩ ⟨b,hb,rfl⟩ hpl
  obtain ⟨l2,hu,hg2,-,-⟩:=run_update_str (P:=Tryz.prog) (t:=221) (s:=(fs.getD i zF).name) (v:=.int .i64 (fs.getD i zF).ty) hm Tryz.underlying221 Tryz.underlying9
  have cM:=hbx.cell
  have c0:W.cell? ⟨b,0,none⟩=some (.string (fs.getD i zF).name):=by simp [World.cell?,hb]
  have c2:W.cell? ⟨b,2,none⟩=some (.int .i64 (fs.getD i zF).ty):=by simp [World.cell?,hb]
  have hgr:=grown_set (gW (uY l2)) hm
  have hset:=(Go.MapKept.heap_set (o':=gW (uY l2)) hm).1
  have hml:=(Array.getElem?_eq_some_iff.1 hm).1
  have hbl:Below h.w.heap.size W _:=(Below.refl h.w.heap.size W).grown hgr hB.size (fun k e=>by cases e; exact Nat.le_refl _)
  have hkc:=KeepsCells.grown hgr (fun r e=>by cases e; exact ⟨_,hm,rfl⟩)
  have hfin:∀ s,sget s l2=lastT fs s (pre++[i]):=fun s=>by rw [hg2 s,lastT_snoc,hg s]
  have hex:∃ l,({ W with heap:=W.heap.setIfInBounds h.w.heap.size (gW (uY l2)) }:World).heap[h.w.heap.size]?=some (gW (uY l))∧∀ s,sget s l=lastT fs s (pre++[i]):=⟨l2,hset,hfin⟩
  have HF:=Lib.hid (And.intro (KeepsFrom.of_grownBy (B:=W3.heap.size) hgr (fun j e=>by cases e; omega)) (And.intro (Kp.mk hbl hkc) (And.intro (And.intro hex (hkc.boxed hbx)) (hB.trans hbl))))
  clear hex hgr hset hml hbl hkc hfin hg hg2 hB hm hb hbx
  generalize fs.getD i zF=f at *
  generalize vs.getD i undef=u at *
  gi_wp2_with (first | (gi_at_mapUpdate; refine wpListIn_mapUpdate_at rfl _ _ _ 221 rfl rfl rfl rfl hu ?_) | gi_in)
  have hfo:=HF.out
  rw [hsz] at hfo
  exact ⟨hfo.1,hfo.2.1,hfo.2.2⟩
 case done =>
  rintro D ys W hD rfl ⟨⟨⟨l,hm,hg⟩,hbx⟩,hB⟩ hK
  have cM:=hbx.cell
  have hfin:∀ s,sget s l=(tyF fs s).map (.int .i64):=fun s=>by rw [hg s,lastT_dn fs s _ (Nat.le_refl _),Nat.sub_self,List.drop_zero]
  have HF:=Lib.hid (And.intro hm (And.intro hfin hB))
  clear hg hfin hB hbx hm
  gi_wp2
  refine ⟨by simp,.inl ⟨_,_,rfl,run_takeDeferred hK,?_⟩⟩
  obtain ⟨f1,f2,f3⟩:=HF.out
  have hml:=(Array.getElem?_eq_some_iff.1 f1).1
  have hp:(W.putObj D (.deferred none)).heap[h.w.heap.size]?=some (gW (uY l)):=(World.putObj_heap_other (by omega)).trans f1
  refine ⟨.map (some h.w.heap.size),?_,rfl,⟨l,hp,f2⟩,f3.trans (belowK_b (w:=h.w) (Nat.le_refl _) _ D _ _ (by omega) hK rfl rfl)⟩
  simp [results,Tryz.f162,go_sem]
 case stop =>
  rintro D c pre W hD - ⟨hf,-⟩
  exact hf.elim
end Go.Proofs.YtjpgjnldeafpkaaGreat
namespace Go.Proofs.YtjpgjnldeafpkaaGreat
open Go.RowKit Go.Shelf
def TypesAt (h:Vw) (b:Nat) (f:ByteArray→Option Int):Prop:=∃ l,MapAt h b (uY l)∧∀ s,sget s l=(f s).map (.int .i64)
theorem TypesAt.sees {h h':Vw} {b:Nat} {f:ByteArray→Option Int} (k:TypesAt h b f) (s:Sees h h'):TypesAt h' b f:=by
 obtain ⟨l,h1,h2⟩:=k
 exact ⟨l,h1.sees s,h2⟩
theorem types_any (fs:List Fd) (v:Value) (h:Vw) (hf:IsFds h v fs):C0 Tryz.prog 162 #[v] h (fun r h'=>∃ b,r=.map (some b)∧TypesAt h' b (tyF fs)):=by
 intro _ _ _ hbad
 obtain ⟨vs,hr,hs⟩:=hf
 have hvl:=hs.len
 obtain ⟨A,cap,rfl,-,-,-⟩:=hr.form
 rw [cQ hvl] at hr ⊢
 have hsl:∀ v∈vs,.slice (sA v) (sN v) (sC v)=v:=fun v hv=>by
  obtain ⟨i,hi⟩:=List.getElem?_of_mem hv
  have hlt:=(List.getElem?_eq_some_iff.1 hi).1
  obtain ⟨x,hx⟩:∃ x,(fs.map (·.src))[i]?=some x:=⟨_,List.getElem?_eq_getElem (by rw [List.length_map]; omega)⟩
  obtain ⟨A,n,c,rfl⟩:=(AllArgs.get hs hx hi).slice
  rfl
 refine (callsIn_wide.1 (types_in fs vs A cap h hr hvl hsl 9 (by omega))).mono ?_
 rintro e w' ⟨rfl,⟨l,h1,h2⟩,hb⟩
 exact ⟨_,[],rfl,Low.of_below hb,(fun x hx=>by cases hx),rfl,_,rfl,l,⟨fun hm=>Nat.lt_irrefl _ (hbad _ hm),h1⟩,h2⟩
def RulesAt (h:Vw) (b:Nat):Prop:=∃ es,MapAt h b (tV es)∧∀ op,match ruleT op with
 | some (a,t)=>∃ A n c,iget op es=some (.agg #[.slice A n c,.int .i64 t])∧RS h 1 (.slice A n c) (uV a)
 | none=>iget op es=none
theorem RulesAt.sees {h h':Vw} {b:Nat} (k:RulesAt h b) (s:Sees h h'):RulesAt h' b:=by
 obtain ⟨es,h1,h2⟩:=k
 refine ⟨es,h1.sees s,fun op=>?_⟩
 have:=h2 op
 split at this
 ·obtain ⟨A,n,c,h3,h4⟩:=this
  exact ⟨A,n,c,h3,h4.sees s⟩
 ·exact this
def rulesL (A B C:Value × Value):List (Int × Value) :=
 [(3,.agg #[A.2,.int .i64 1]),(4,.agg #[B.2,.int .i64 2]),(18,.agg #[C.2,.int .i64 1]),(5,.agg #[A.1,.int .i64 1]),(6,.agg #[A.1,.int .i64 1]),(7,.agg #[A.1,.int .i64 1]),(8,.agg #[A.1,.int .i64 1]),(9,.agg #[A.1,.int .i64 1]),
  (10,.agg #[C.1,.int .i64 3]),(15,.agg #[B.1,.int .i64 2]),(16,.agg #[B.1,.int .i64 2])]
theorem rules_get {es:List (Int × Value)} {A B C:Value × Value} (hn:(es.map (·.1)).Nodup) (he:∀ k v,(k,v)∈es↔(k,v)∈rulesL A B C) (op:Int):iget op es=iget op (rulesL A B C):=by
 have hnl:((rulesL A B C).map (·.1)).Nodup:=by simp [rulesL]
 cases h:iget op (rulesL A B C) with
 | some v =>
  have hm:∀ {l:List (Int × Value)},iget op l=some v→(op,v)∈l:=by
   intro l
   induction l with
   | nil=>intro h; cases h
   | cons p l ih =>
    obtain ⟨k,u⟩:=p
    intro h
    unfold iget at h
    split at h
    ·rename_i e; simp only [Option.some.injEq] at h; subst e h; simp
    ·exact List.mem_cons_of_mem _ (ih h)
  exact iget_mem hn ((he op v).2 (hm h))
 | none =>
  refine iget_none fun hm=>?_
  obtain ⟨⟨k,v⟩,hm2,rfl⟩:=List.mem_map.1 hm
  rw [iget_mem hnl ((he k v).1 hm2)] at h
  cases h
theorem rules_any (h:Vw):C0 Tryz.prog 163 #[] h (fun r h'=>∃ b,r=.map (some b)∧RulesAt h' b):=by
 refine uQ Tryz.func163 (c:=Tryz.f163.body.getD .skip) (N:=34) ?_
 intro hbx hbad Q hQ
 refine gov3 16 [.fix,.fix,.fix] [] ?_
 intro b1 b2 b3 W4 S5
 refine zQ [(1,Vs b1 2 2),(2,Vs b2 2 2),(3,Vs b3 2 2)] [] [(b3,0,[Vi 3,Vi 3]),(b2,0,[Vi 2,Vi 2]),(b1,0,[Vi 1,Vi 1])] ?_
 refine g_maplit 223 [.mk 7,.pu 8 (Vs b1 2 2),.pu 9 (Vs b1 1 2),.pu 10 (.agg #[Vs b1 1 2,Vi 1]),.ins 3 (.agg #[Vs b1 1 2,Vi 1]),.pu 11 (Vs b2 2 2),.pu 12 (Vs b2 1 2),.pu 13 (.agg #[Vs b2 1 2,Vi 2]),.ins 4 (.agg #[Vs b2 1 2,Vi 2]),.pu 14 (Vs b3 2 2),.pu 15 (Vs b3 1 2),.pu 16 (.agg #[Vs b3 1 2,Vi 1]),.ins 18 (.agg #[Vs b3 1 2,Vi 1]),.pu 17 (Vs b1 2 2),.pu 18 (.agg #[Vs b1 2 2,Vi 1]),.ins 5 (.agg #[Vs b1 2 2,Vi 1]),.pu 19 (Vs b1 2 2),.pu 20 (.agg #[Vs b1 2 2,Vi 1]),.ins 6 (.agg #[Vs b1 2 2,Vi 1]),.pu 21 (Vs b1 2 2),.pu 22 (.agg #[Vs b1 2 2,Vi 1]),.ins 7 (.agg #[Vs b1 2 2,Vi 1]),.pu 23 (Vs b1 2 2),.pu 24 (.agg #[Vs b1 2 2,Vi 1]),.ins 8 (.agg #[Vs b1 2 2,Vi 1]),.pu 25 (Vs b1 2 2),.pu 26 (.agg #[Vs b1 2 2,Vi 1]),.ins 9 (.agg #[Vs b1 2 2,Vi 1]),.pu 27 (Vs b3 2 2),.pu 28 (.agg #[Vs b3 2 2,Vi 3]),.ins 10 (.agg #[Vs b3 2 2,Vi 3]),.pu 29 (Vs b2 2 2),.pu 30 (.agg #[Vs b2 2 2,Vi 2]),.ins 15 (.agg #[Vs b2 2 2,Vi 2]),.pu 31 (Vs b2 2 2),.pu 32 (.agg #[Vs b2 2 2,Vi 2]),.ins 16 (.agg #[Vs b2 2 2,Vi 2]),.mv 33,.mv 0] ?_ Tryz.underlying223 Tryz.underlying3; intro b6 es7 hes8 hnd9
 refine go0 2 [] [] ?_
 refine hQ.toJ [.map (some b6)] [] (fun a w hJ=>?_)
 skip
 have c1:Cells ⟨w,h.bad⟩ b1 0 [.int .i64 1,.int .i64 1]:=(hJ.f (_,_,_) (List.mem_of_getElem? (i:=2) (by kernel_rfl))).sees hJ.j.out
 have c2:Cells ⟨w,h.bad⟩ b2 0 [.int .i64 2,.int .i64 2]:=(hJ.f (_,_,_) (List.mem_of_getElem? (i:=1) (by kernel_rfl))).sees hJ.j.out
 have c3:Cells ⟨w,h.bad⟩ b3 0 [.int .i64 3,.int .i64 3]:=(hJ.f (_,_,_) (List.mem_of_getElem? (i:=0) (by kernel_rfl))).sees hJ.j.out
 have n2:=dY [1,1] (by decide) c1
 have t2:=dY [2,2] (by decide) c2
 have s2:=dY [3,3] (by decide) c3
 have n1:=n2.take 1 (by decide)
 have t1:=t2.take 1 (by decide)
 have s1:=s2.take 1 (by decide)
 refine ⟨b6,rfl,es7,hJ.mapOut 0 (by kernel_rfl) rfl,fun op=>?_⟩
 rw [rules_get (A:=(.slice (some ⟨b1,0,none⟩) 2 2,.slice (some ⟨b1,0,none⟩) 1 2)) (B:=(.slice (some ⟨b2,0,none⟩) 2 2,.slice (some ⟨b2,0,none⟩) 1 2)) (C:=(.slice (some ⟨b3,0,none⟩) 2 2,.slice (some ⟨b3,0,none⟩) 1 2)) hnd9 (fun k v=>by
  rw [hes8]
  simp [rulesL])]
 clear hJ hes8 hnd9
 unfold ruleT
 by_cases e3:op=3
 ·subst e3; exact ⟨_,_,_,rfl,n1⟩
 by_cases e4:op=4
 ·subst e4; exact ⟨_,_,_,rfl,t1⟩
 by_cases e18:op=18
 ·subst e18; exact ⟨_,_,_,rfl,s1⟩
 by_cases e5:5≤op∧op≤9
 ·rcases (by omega:op=5∨op=6∨op=7∨op=8∨op=9) with rfl | rfl | rfl | rfl | rfl <;> exact ⟨_,_,_,rfl,n2⟩
 by_cases e10:op=10
 ·subst e10; exact ⟨_,_,_,rfl,s2⟩
 by_cases e15:op=15
 ·subst e15; exact ⟨_,_,_,rfl,t2⟩
 by_cases e16:op=16
 ·subst e16; exact ⟨_,_,_,rfl,t2⟩
 rw [if_neg e3,if_neg e4,if_neg e18,if_neg e5,if_neg e10,if_neg (by omega)]
 simp only
 unfold rulesL iget
 simp only [iget]
 rw [if_neg e3,if_neg e4,if_neg e18,if_neg (by omega),if_neg (by omega),if_neg (by omega),if_neg (by omega),if_neg (by omega),if_neg e10,if_neg e15,if_neg e16]
theorem equal_any (l m:List Int) (sl sl':Value) (h:Vw) (hr:RS h 1 sl (uV l)) (hr':RS h 1 sl' (uV m)):C0 Tryz.prog 20 #[sl,sl'] h (fun r _=>r=.bool (decide (l=m))):=by
 obtain ⟨A,ca,rfl,l1,l2,-⟩:=hr.form
 obtain ⟨A',ca',rfl,-,-,-⟩:=hr'.form
 rw [List.length_map] at hr hr' l1 ⊢
 unfold maxLen at l2
 rw [List.length_map]
 by_cases hlm:l.length=m.length
 rotate_left
 ·rw [decide_eq_false (fun e=>hlm (by rw [e]))]
  generalize hL:l.length=len at *
  generalize hL':m.length=len' at *
  refine uQ Tryz.func20 (c:=Tryz.f20.body.getD .skip) (N:=26) ?_
  intro hbx hbad Q hQ
  refine go0 15 [] [] ?_
  refine mV (t:=(len:Int) != (len':Int)) (bne_iff_ne.2 (by omega)) ?_
  refine go0 7 [] [] ?_
  refine hQ.to [.bool false] (fun H sH=>?_)
  exact rfl
 ·rw [← hlm] at hr' ⊢
  have hml:m.length=l.length:=hlm.symm
  clear hlm
  generalize hL:l.length=len at *
  refine uQ Tryz.func20 (c:=Tryz.f20.body.getD .skip) (N:=26) ?_
  intro hbx hbad Q hQ
  refine go0 27 [] [(10,.bool ((len:Int) != (len:Int)),.bool false)] ?_ (hc:=(And.intro (congrArg Value.bool (bne_self_eq_false _)) (trivial)))
  refine cV [0,1,0,1,1] [.block 0,.seq [1,1,1]] (fun (k:Nat) X=>∃ (W1:Vw) ,X W1 [(0,.slice A len ca),(1,.slice A' len ca'),(12,Vi (len:Int)),(13,Vi (k:Int))] [] []∧Sees h W1∧(k≤len)∧(l.take k=m.take k)) (fun k=>len - k) (0) (fun X q=>⟨h,q _ _ _ _ ⟨rfl,by kernel_rfl⟩,Sees.refl _,Nat.zero_le _,rfl⟩) ?_
  rintro k a w ⟨W1,hJ,S2,hk,hpre⟩; refine gV hJ ?_; clear hJ a w
  refine go0 6 [] [] ?_
  rcases (by omega:k < len∨len=k) with hlt | hke
  ·obtain ⟨x,hx⟩:∃ x,l[k]?=some x:=⟨_,List.getElem?_eq_getElem (by omega)⟩
   obtain ⟨y,hy⟩:∃ y,m[k]?=some y:=⟨_,List.getElem?_eq_getElem (by omega)⟩
   have hrow:(uV l)[k]?=some [.int .i64 x]:=by rw [List.getElem?_map,hx]; rfl
   have hrow':(uV m)[k]?=some [.int .i64 y]:=by rw [List.getElem?_map,hy]; rfl
   refine mV (t:=decide ((k:Int) < (len:Int))) (decide_eq_true (by omega)) ?_
   refine go0 11 [] [] ?_
   obtain ⟨b3,o4,rfl,-,c5⟩:=RS.row hr (hrow)
   refine vQ (c5.sees S2) ?_
   obtain ⟨b6,o7,rfl,-,c8⟩:=RS.row hr' (hrow')
   refine vQ (c8.sees S2) ?_
   refine jV 9 0 [.pu,.pu,.v (fun gh=>.pointer (some ⟨b3,o4 + k * 1,none⟩)),.lf 1 0,.pu,.pu,.v (fun gh=>.pointer (some ⟨b6,o7 + k * 1,none⟩)),.lf 0 0,.pu] [] (trivial) ?_ ?_
   ·intro R hT hA hmono
    refine And.intro (aZ hT hA b3 o4 len ca k (fun gh=>.pointer (some ⟨b3,o4 + k * 1,none⟩)) (by first | omega | (simp; omega))) ?_
    refine And.intro (aZ hT hA b6 o7 len ca' k (fun gh=>.pointer (some ⟨b6,o7 + k * 1,none⟩)) (by first | omega | (simp; omega))) ?_
    trivial
   rintro W9 S10 -
   refine go0 1 [] [] ?_
   by_cases e:x=y
   ·refine wQ (t:=x != y) (bne_eq_false_iff_eq.2 e) ?_
    refine go0 7 [] [(25,Vi (IntKind.i64.wrap ((k:Int) + 1)),Vi ((k:Int) + 1))] ?_ (hc:=(And.intro (jJ (by omega) (by omega)) (trivial)))
    exact lV (k + 1) (fun X q=>⟨W9,q _ _ _ _ ⟨rfl,by kernel_rfl⟩,(S2.trans S10),by omega,by rw [bZ _ k _ hx,bZ _ k _ hy,hpre,e]⟩) (by omega)
   ·skip
    refine mV (t:=x != y) (bne_iff_ne.2 e) ?_
    refine go0 8 [] [] ?_
    refine aV ?_
    refine go0 2 [] [] ?_
    have hne:¬ l=m:=fun q=>e (by rw [q,hy] at hx; exact (Option.some.inj hx).symm)
    refine hQ.to [.bool false] (fun H sH=>?_)
    exact congrArg Value.bool (decide_eq_false hne).symm
  ·skip
   refine wQ (t:=decide ((k:Int) < (len:Int))) (decide_eq_false (by omega)) ?_
   refine go0 2 [] [] ?_
   refine aV ?_
   refine go0 8 [] [] ?_
   have heq:l=m:=by
    have h1:l.take k=l:=List.take_of_length_le (by omega)
    have h2:m.take k=m:=List.take_of_length_le (by omega)
    rw [← h1,← h2,hpre]
   refine hQ.to [.bool true] (fun H sH=>?_)
   exact congrArg Value.bool (decide_eq_true heq).symm
def tysE (f:ByteArray→Option Int) (l:List Ex):List Int:=l.map fun y=>(tyE f y).1
theorem tyL_all {f:ByteArray→Option Int}:∀ {l:List Ex},(∀ y∈l,(tyE f y).2=0)→tyL f l=(tysE f l,0)
 | [],_=>by rw [tyL]; rfl
 | x :: l,h=>by
  have h1:=h x (by simp)
  have h2:=tyL_all (f:=f) (l:=l) (fun y hy=>h y (by simp [hy]))
  rw [tyL,h2,if_pos h1]; simp [tysE]
theorem tyL_err {f:ByteArray→Option Int}:∀ {l:List Ex} {k:Nat} {y:Ex},l[k]?=some y→(∀ z∈l.take k,(tyE f z).2=0)→(tyE f y).2≠0→(tyL f l).2=(tyE f y).2
 | [],k,y,h,_,_=>by simp at h
 | x :: l,0,y,h,_,he=>by
  simp only [List.getElem?_cons_zero,Option.some.injEq] at h
  subst h
  rw [tyL,if_neg he]
 | x :: l,k + 1,y,h,hp,he=>by
  simp only [List.getElem?_cons_succ] at h
  have h1:=hp x (by simp)
  have h2:=tyL_err (f:=f) h (fun z hz=>hp z (by simp [hz])) he
  rw [tyL,if_pos h1,if_neg (by rw [h2]; exact he)]
  exact h2
theorem ret2 {p:Int × Int} {a b:Int} (h:p=(a,b)):Value.tuple #[.int .i64 a,.int .i64 b]=.tuple #[.int .i64 p.1,.int .i64 p.2]:=by rw [h]
theorem rule_none {op:Int} (h1:3≤op) (h2:op≤18) (h:ruleT op=none):op=17∨(op≠17∧11≤op∧op≤14):=by
 unfold ruleT at h
 repeat' split at h
 all_goals first | (cases h; done) | omega
theorem arity_le (op:Int):arity op≤3:=by
 unfold arity
 repeat' split
 all_goals omega
theorem tyof_any (f:ByteArray→Option Int) (fb rb:Nat):∀ (m:Nat) (x:Ex) (sl:Value) (h:Vw),(szE x).1≤m→IsArgs h x sl→WfE x→TypesAt h fb f→RulesAt h rb →
  C0 Tryz.prog 161 #[.agg #[.int .i64 x.op,.int .i64 x.k,.int .i64 x.n,.string x.s,.string x.nm,sl],.map (some fb),.map (some rb)] h (fun r _=>r=.tuple #[.int .i64 (tyE f x).1,.int .i64 (tyE f x).2])
 | 0,x,sl,h,hm,_,_,_,_=>by have:=xY x; omega
 | m + 1,x,sl,h,hm,hx,hw,hF,hR=>by
  have IH:=tyof_any f fb rb m
  have hse:=wY x
  rw [hse] at hm
  simp only at hm
  have hwl:=hw.list
  have hev:=tyE_eq f x
  rcases hw.top with ⟨h1,-⟩ | ⟨h1,-⟩ | ⟨h1,ho2,-,-,-,-,h7⟩
  ·obtain ⟨A,len,c,rfl⟩:=hx.slice
   rw [if_pos h1] at hev
   rw [hev,h1]
   refine uQ Tryz.func161 (c:=Tryz.f161.body.getD .skip) (N:=112) ?_
   intro hbx hbad Q hQ
   refine go1 34 [.own,.b 0 0,.b 0 1] [] ?_
   intro b1
   refine hQ.to [Vi x.k,Vi 0] (fun H sH=>?_)
   exact rfl
  ·obtain ⟨A,len,c,rfl⟩:=hx.slice
   rw [if_neg (by omega),if_pos h1] at hev
   obtain ⟨ls,hmp,hgt⟩:=hF
   have hgt:=hgt x.nm
   rw [h1]
   cases hg:f x.nm with
   | none =>
    rw [hg] at hev hgt
    rw [hev]
    have hl:=mfind_none hgt
    refine uQ Tryz.func161 (c:=Tryz.f161.body.getD .skip) (N:=112) ?_
    intro hbx hbad Q hQ
    refine go1 34 [.own,.b 0 0,.b 0 4] [] ?_
    intro b1
    refine dV fb (es:=uY ls) (td:=.string) (key:=.string x.nm) (r:=none) (Vi 0) (.tuple #[Vi 0,.bool false]) (fun a w hJ=>MapAt.now (hmp.sees (Sees.refl _)) hJ) (hl) ?_
    refine go0 25 [] [] ?_
    refine hQ.to [Vi 0,Vi 5] (fun H sH=>?_)
    exact rfl
   | some t =>
    rw [hg] at hev hgt
    rw [hev]
    obtain ⟨i,hl⟩:=mfind_some hgt
    refine uQ Tryz.func161 (c:=Tryz.f161.body.getD .skip) (N:=112) ?_
    intro hbx hbad Q hQ
    refine go1 34 [.own,.b 0 0,.b 0 4] [] ?_
    intro b1
    refine dV fb (es:=uY ls) (td:=.string) (key:=.string x.nm) (r:=some (i,Vi t)) (Vi 0) (.tuple #[Vi t,.bool true]) (fun a w hJ=>MapAt.now (hmp.sees (Sees.refl _)) hJ) (hl) ?_
    refine go0 27 [] [] ?_
    refine hQ.to [Vi t,Vi 0] (fun H sH=>?_)
    exact rfl
  ·obtain ⟨vs,hr,hvs⟩:=hx.form
   obtain ⟨A,ca,rfl,-,-,-⟩:=hr.form
   have hvl:=hvs.len
   have hrl:=uK hvl
   rw [hrl] at hr ⊢
   rw [if_neg (by omega),if_neg (by omega)] at hev
   rw [hev]
   have hl3:x.args.length≤3:=by rw [h7]; exact arity_le _
   generalize hL:x.args.length=len at *
   obtain ⟨es,hmp,hgt⟩:=hR
   have hRR:RulesAt h rb:=⟨es,hmp,hgt⟩
   have hgt:=hgt x.op
   have htl:(tysE f x.args).length=len:=by rw [tysE,List.length_map,hL]
   refine uQ Tryz.func161 (c:=Tryz.f161.body.getD .skip) (N:=112) ?_
   intro hbx hbad Q hQ
   refine fV 3 1 ?_
   refine go1 21 [.own,.b 0 0] [] ?_
   intro b1
   refine wQ (t:=x.op == 1) (beq_eq_false_iff_ne.2 (by omega)) ?_
   refine go0 6 [] [] ?_
   refine wQ (t:=x.op == 2) (beq_eq_false_iff_ne.2 (by omega)) ?_
   refine go0 18 [.b 0 5] [] ?_
   refine cV [0,1,0,1,1,1] [.block 1,.seq [1,1,1,1]] (fun (k:Nat) X=>∃ (W2:Vw) (v:Value),X W2 [(1,.map (some fb)),(2,.map (some rb)),(3,Vp b1),(37,.slice A len ca),(38,Vi (len:Int)),(39,Vi (k:Int)),(10,v)] [.box b1 [Vi x.op,Vi x.k,Vi x.n,.string x.s,.string x.nm,.slice A len ca],.row v 3 1 (uV ((tysE f x.args).take k))] []∧Sees h W2∧(k≤len)∧(∀ y∈x.args.take k,(tyE f y).2=0)) (fun k=>len - k) (0) (fun X q=>⟨h,(Vz),q _ _ _ _ ⟨rfl,by kernel_rfl⟩,Sees.refl _,Nat.zero_le _,(fun y hy=>by simp at hy)⟩) ?_
   rintro k a w ⟨W2,v,hJ,S3,hk,hpre⟩; refine gV hJ ?_; clear hJ a w
   refine go0 6 [] [] ?_
   rcases (by omega:k < len∨len=k) with hlt | hke
   ·obtain ⟨y,hy⟩:∃ y,x.args[k]?=some y:=⟨_,List.getElem?_eq_getElem (by omega)⟩
    obtain ⟨u,hu⟩:∃ u,vs[k]?=some u:=⟨_,List.getElem?_eq_getElem (by omega)⟩
    have hyu:=AllArgs.get hvs hy hu
    obtain ⟨Au,nu,cu,rfl⟩:=hyu.slice
    have hrow:(tK x.args vs)[k]?=some (exRow y (.slice Au nu cu)):=by show (List.zipWith exRow _ _)[k]?=_; rw [List.getElem?_zipWith,hy,hu]
    have hym:=List.mem_of_getElem? hy
    have hcall:=fun H q1 q2 q3=>IH y (.slice Au nu cu) H (by have:=(yY hym).1; omega) q1 (hwl.get hym) q2 q3
    have hek:(tysE f x.args)[k]?=some (tyE f y).1:=by rw [tysE,List.getElem?_map,hy]; rfl
    have htk:=bZ _ k _ hek
    have hxk:=bZ _ k _ hy
    have htn:((tysE f x.args).take k).length=k:=by rw [List.length_take,htl]; omega
    refine mV (t:=decide ((k:Int) < (len:Int))) (decide_eq_true (by omega)) ?_
    refine go0 6 [] [] ?_
    obtain ⟨b4,o5,rfl,-,c6⟩:=RS.row hr (hrow)
    refine vQ (c6.sees S3) ?_
    refine go1 26 [.ix b4 o5 len ca k,.f 0 0,.own,.b 0 0,.b 0 0,.cl 161 #[.agg #[Vi y.op,Vi y.k,Vi y.n,.string y.s,.string y.nm,.slice Au nu cu],.map (some fb),.map (some rb)] (.tuple #[Vi ((tyE f y).1),Vi ((tyE f y).2)])] [] ?_ (ho:=(And.intro (by first | omega | (simp; omega)) (And.intro (fun H sH=>hcall _ (hyu.sees (S3.trans sH)) (hF.sees (S3.trans sH)) (hRR.sees (S3.trans sH))) (trivial))))
    intro b7
    by_cases he:(tyE f y).2=0
    ·refine wQ (t:=((tyE f y).2) != 0) (bne_eq_false_iff_eq.2 he) ?_
     refine rV 6 [.fix] [] ?_
     intro b8 W9 S10
     refine goa0 9 [.ap 2 0 (uV ((tysE f x.args).take k)) [[Vi ((tyE f y).1)]]] [(57,Vi (IntKind.i64.wrap ((k:Int) + 1)),Vi ((k:Int) + 1))] ?_ (ho:=(And.intro (by rw [List.length_map,htn]; simp; omega) (trivial))) (hc:=(And.intro (jJ (by omega) (by omega)) (trivial)))
     intro v56 W11 S12
     refine zQ [(1,.map (some fb)),(2,.map (some rb)),(3,Vp b1),(37,.slice (some ⟨b4,o5,none⟩) len ca),(38,Vi (len:Int)),(10,.slice (sA v56) (sN v56) (sC v56)),(39,Vi ((k:Int) + 1))] [.box b1 [Vi x.op,Vi x.k,Vi x.n,.string x.s,.string x.nm,.slice (some ⟨b4,o5,none⟩) len ca],.row (.slice (sA v56) (sN v56) (sC v56)) 3 1 ((uV ((tysE f x.args).take k))++[[Vi ((tyE f y).1)]])] [] ?_
     exact lV (k + 1) (fun X q=>⟨W11,.slice (sA v56) (sN v56) (sC v56),q _ _ _ _ (mY (by rw [htk]; simp)),(S3.trans (S10.trans S12)),by omega,(fun z hz=>by rw [hxk] at hz; rcases List.mem_append.1 hz with q | q; exact hpre z q; rw [List.mem_singleton.1 q]; exact he)⟩) (by omega)
    ·skip
     refine mV (t:=((tyE f y).2) != 0) (bne_iff_ne.2 he) ?_
     refine go0 11 [] [] ?_
     refine aV ?_
     refine go0 2 [] [] ?_
     have htE:=tyL_err hy hpre he
     refine hQ.to [Vi 0,Vi ((tyE f y).2)] (fun H sH=>?_)
     rw [if_neg (by rw [htE]; exact he),htE]; rfl
   ·skip
    have hta:x.args.take k=x.args:=List.take_of_length_le (by omega)
    have htb:(tysE f x.args).take k=(tysE f x.args):=List.take_of_length_le (by omega)
    rw [hta] at hpre
    have htE:=tyL_all hpre
    rw [htb]
    rw [htE] at hev
    generalize (tysE f x.args)=tys at *
    refine xQ 1 (v:=v) (e:=3) (kk:=1) (l:=uV tys) ?_; intro A2 c2 hE_v hc_v hm_v
    rw [show (uV tys).length=k from by first | omega | (simp; done) | (simp; omega)] at hE_v hc_v
    rw [hE_v]
    refine yQ 1 (v:=.slice A2 k c2) (e:=3) (kk:=1) (l:=uV tys) ?_; intro W13 S14 fr
    refine wQ (t:=decide ((k:Int) < (len:Int))) (decide_eq_false (by omega)) ?_
    refine go0 2 [] [] ?_
    refine aV ?_
    refine go0 7 [.b 0 0] [] ?_
    cases hru:ruleT x.op with
    | some ru =>
     obtain ⟨ta,t⟩:=ru
     rw [hru] at hgt
     obtain ⟨Ar,nr,cr,hge,hrr⟩:=hgt
     obtain ⟨i,hl⟩:=ifind_some hge
     have hq:=fun H q1 q2=>equal_any tys ta (.slice A2 k c2) (.slice Ar nr cr) H q1 q2
     refine dV rb (es:=tV es) (td:=.int .i64) (key:=Vi x.op) (r:=some (i,.agg #[.slice Ar nr cr,Vi t])) (.agg #[Vz,Vi 0]) (.tuple #[.agg #[.slice Ar nr cr,Vi t],.bool true]) (fun a w hJ=>MapAt.now (hmp.sees (S3.trans S14)) hJ) (hl) ?_
     refine go1 22 [.own,.b 0 0,.b 0 0,.cl 20 #[.slice A2 k c2,.slice Ar nr cr] (.bool (decide (tys=ta)))] [] ?_ (ho:=(And.intro (fun H sH=>hq _ (fr.sees sH) (hrr.sees (S3.trans (S14.trans sH)))) (trivial)))
     intro b15
     by_cases e:tys=ta
     ·skip
      refine mV (t:=decide (tys=ta)) (decide_eq_true e) ?_
      refine go0 11 [.b 0 1] [] ?_
      refine hQ.to [Vi t,Vi 0] (fun H sH=>?_)
      exact ret2 (by rw [htE,if_pos rfl]; unfold opTy; rw [hru]; simp [e])
     ·skip
      refine wQ (t:=decide (tys=ta)) (decide_eq_false e) ?_
      refine go0 16 [] [] ?_
      refine hQ.to [Vi 0,Vi 9] (fun H sH=>?_)
      exact ret2 (by rw [htE,if_pos rfl]; unfold opTy; rw [hru]; simp [e])
    | none =>
     rw [hru] at hgt
     have hl:=ifind_none hgt
     have htk:tys.length=k:=by omega
     rcases rule_none h1 ho2 hru with h17 | ⟨h17,ho3,ho4⟩
     ·have hk3:k=3:=by rw [← hke,h7,h17]; rfl
      obtain ⟨p,q,r,rfl⟩:∃ p q r,tys=[p,q,r]:=by
       match tys,htk.trans hk3 with
       | [p,q,r],_=>exact ⟨p,q,r,rfl⟩
      have r0:(uV [p,q,r])[0]?=some [.int .i64 p]:=rfl
      have r1:(uV [p,q,r])[1]?=some [.int .i64 q]:=rfl
      have r2:(uV [p,q,r])[2]?=some [.int .i64 r]:=rfl
      by_cases hp:p=2
      ·skip
       by_cases hq:q=r
       ·skip
        refine dV rb (es:=tV es) (td:=.int .i64) (key:=Vi x.op) (r:=none) (.agg #[Vz,Vi 0]) (.tuple #[.agg #[Vz,Vi 0],.bool false]) (fun a w hJ=>MapAt.now (hmp.sees (S3.trans S14)) hJ) (hl) ?_
        refine go1 31 [.own,.b 0 0] [] ?_
        intro b16
        obtain ⟨b17,o18,rfl,-,c19⟩:=RS.row fr (r0)
        refine vQ (c19.sees (Sees.refl _)) ?_
        have c20:=RS.cell fr (r1)
        refine vQ (c20.sees (Sees.refl _)) ?_
        have c21:=RS.cell fr (r2)
        refine vQ (c21.sees (Sees.refl _)) ?_
        refine jV 19 0 [.pu,.ld 1 0,.v (fun gh=>.bool true),.pu,.pu,.v (fun gh=>.pointer (some ⟨b17,o18 + 0 * 1,none⟩)),.lf 2 0,.v (fun gh=>.bool true),.pu,.pu,.pu,.v (fun gh=>.pointer (some ⟨b17,o18 + 1 * 1,none⟩)),.lf 1 0,.pu,.v (fun gh=>.pointer (some ⟨b17,o18 + 2 * 1,none⟩)),.lf 0 0,.v (fun gh=>.bool true),.pu,.pu] [] (trivial) ?_ ?_
        ·intro R hT hA hmono
         refine And.intro (zY hT hA (fun gh=>.bool true) (fun gh=>.bool (x.op == 17)) (fun gh=>congrArg Value.bool (beq_iff_eq.2 h17))) ?_
         refine And.intro (aZ hT hA b17 o18 k c2 0 (fun gh=>.pointer (some ⟨b17,o18 + 0 * 1,none⟩)) (by first | omega | (simp; omega))) ?_
         refine And.intro (zY hT hA (fun gh=>.bool true) (fun gh=>.bool (p == 2)) (fun gh=>congrArg Value.bool (beq_iff_eq.2 hp))) ?_
         refine And.intro (aZ hT hA b17 o18 k c2 1 (fun gh=>.pointer (some ⟨b17,o18 + 1 * 1,none⟩)) (by first | omega | (simp; omega))) ?_
         refine And.intro (aZ hT hA b17 o18 k c2 2 (fun gh=>.pointer (some ⟨b17,o18 + 2 * 1,none⟩)) (by first | omega | (simp; omega))) ?_
         refine And.intro (zY hT hA (fun gh=>.bool true) (fun gh=>.bool (q == r)) (fun gh=>congrArg Value.bool (beq_iff_eq.2 hq))) ?_
         trivial
        rintro W22 S23 -
        refine go0 5 [] [] ?_
        have c24:=RS.cell fr (r1)
        refine vQ (c24.sees S23) ?_
        refine go0 9 [.ix b17 o18 k c2 1,.f 0 0] [] ?_ (ho:=(And.intro (by first | omega | (simp; omega)) (trivial)))
        refine hQ.to [Vi q,Vi 0] (fun H sH=>?_)
        exact ret2 (by rw [htE,if_pos rfl]; unfold opTy; rw [hru]; simp [h17,hp,hq])
       ·skip
        refine dV rb (es:=tV es) (td:=.int .i64) (key:=Vi x.op) (r:=none) (.agg #[Vz,Vi 0]) (.tuple #[.agg #[Vz,Vi 0],.bool false]) (fun a w hJ=>MapAt.now (hmp.sees (S3.trans S14)) hJ) (hl) ?_
        refine go1 31 [.own,.b 0 0] [] ?_
        intro b25
        obtain ⟨b26,o27,rfl,-,c28⟩:=RS.row fr (r0)
        refine vQ (c28.sees (Sees.refl _)) ?_
        have c29:=RS.cell fr (r1)
        refine vQ (c29.sees (Sees.refl _)) ?_
        have c30:=RS.cell fr (r2)
        refine vQ (c30.sees (Sees.refl _)) ?_
        refine jV 19 0 [.pu,.ld 1 0,.v (fun gh=>.bool true),.pu,.pu,.v (fun gh=>.pointer (some ⟨b26,o27 + 0 * 1,none⟩)),.lf 2 0,.v (fun gh=>.bool true),.pu,.pu,.pu,.v (fun gh=>.pointer (some ⟨b26,o27 + 1 * 1,none⟩)),.lf 1 0,.pu,.v (fun gh=>.pointer (some ⟨b26,o27 + 2 * 1,none⟩)),.lf 0 0,.v (fun gh=>.bool false),.pu,.pu] [] (trivial) ?_ ?_
        ·intro R hT hA hmono
         refine And.intro (zY hT hA (fun gh=>.bool true) (fun gh=>.bool (x.op == 17)) (fun gh=>congrArg Value.bool (beq_iff_eq.2 h17))) ?_
         refine And.intro (aZ hT hA b26 o27 k c2 0 (fun gh=>.pointer (some ⟨b26,o27 + 0 * 1,none⟩)) (by first | omega | (simp; omega))) ?_
         refine And.intro (zY hT hA (fun gh=>.bool true) (fun gh=>.bool (p == 2)) (fun gh=>congrArg Value.bool (beq_iff_eq.2 hp))) ?_
         refine And.intro (aZ hT hA b26 o27 k c2 1 (fun gh=>.pointer (some ⟨b26,o27 + 1 * 1,none⟩)) (by first | omega | (simp; omega))) ?_
         refine And.intro (aZ hT hA b26 o27 k c2 2 (fun gh=>.pointer (some ⟨b26,o27 + 2 * 1,none⟩)) (by first | omega | (simp; omega))) ?_
         refine And.intro (zY hT hA (fun gh=>.bool false) (fun gh=>.bool (q == r)) (fun gh=>congrArg Value.bool (beq_eq_false_iff_ne.2 hq))) ?_
         trivial
        rintro W31 S32 -
        refine go0 3 [] [] ?_
        refine jV 13 0 [.pu,.ld 1 0,.v (fun gh=>.bool false),.pu,.ps,.ps,.ps,.ps,.ps,.ps,.ps,.pu,.pu] [] (trivial) ?_ ?_
        ·intro R hT hA hmono
         refine And.intro (zY hT hA (fun gh=>.bool false) (fun gh=>.bool (x.op != 17)) (fun gh=>congrArg Value.bool (bne_eq_false_iff_eq.2 h17))) ?_
         trivial
        rintro W33 S34 -
        refine go0 12 [] [] ?_
        refine hQ.to [Vi 0,Vi 9] (fun H sH=>?_)
        exact ret2 (by rw [htE,if_pos rfl]; unfold opTy; rw [hru]; simp [h17,hp,hq])
      ·skip
       refine dV rb (es:=tV es) (td:=.int .i64) (key:=Vi x.op) (r:=none) (.agg #[Vz,Vi 0]) (.tuple #[.agg #[Vz,Vi 0],.bool false]) (fun a w hJ=>MapAt.now (hmp.sees (S3.trans S14)) hJ) (hl) ?_
       refine go1 31 [.own,.b 0 0] [] ?_
       intro b35
       obtain ⟨b36,o37,rfl,-,c38⟩:=RS.row fr (r0)
       refine vQ (c38.sees (Sees.refl _)) ?_
       have c39:=RS.cell fr (r1)
       refine vQ (c39.sees (Sees.refl _)) ?_
       have c40:=RS.cell fr (r2)
       refine vQ (c40.sees (Sees.refl _)) ?_
       refine jV 19 0 [.pu,.ld 1 0,.v (fun gh=>.bool true),.pu,.pu,.v (fun gh=>.pointer (some ⟨b36,o37 + 0 * 1,none⟩)),.lf 2 0,.v (fun gh=>.bool false),.pu,.pu,.ps,.ps,.ps,.ps,.ps,.ps,.ps,.pu,.pu] [] (trivial) ?_ ?_
       ·intro R hT hA hmono
        refine And.intro (zY hT hA (fun gh=>.bool true) (fun gh=>.bool (x.op == 17)) (fun gh=>congrArg Value.bool (beq_iff_eq.2 h17))) ?_
        refine And.intro (aZ hT hA b36 o37 k c2 0 (fun gh=>.pointer (some ⟨b36,o37 + 0 * 1,none⟩)) (by first | omega | (simp; omega))) ?_
        refine And.intro (zY hT hA (fun gh=>.bool false) (fun gh=>.bool (p == 2)) (fun gh=>congrArg Value.bool (beq_eq_false_iff_ne.2 hp))) ?_
        trivial
       rintro W41 S42 -
       refine go0 3 [] [] ?_
       refine jV 13 0 [.pu,.ld 1 0,.v (fun gh=>.bool false),.pu,.ps,.ps,.ps,.ps,.ps,.ps,.ps,.pu,.pu] [] (trivial) ?_ ?_
       ·intro R hT hA hmono
        refine And.intro (zY hT hA (fun gh=>.bool false) (fun gh=>.bool (x.op != 17)) (fun gh=>congrArg Value.bool (bne_eq_false_iff_eq.2 h17))) ?_
        trivial
       rintro W43 S44 -
       refine go0 12 [] [] ?_
       refine hQ.to [Vi 0,Vi 9] (fun H sH=>?_)
       exact ret2 (by rw [htE,if_pos rfl]; unfold opTy; rw [hru]; simp [h17,hp])
     ·skip
      have hk2:k=2:=by
       rw [← hke,h7]; unfold arity
       rw [if_neg (by omega),if_neg (by omega),if_neg h17]
      obtain ⟨p,q,rfl⟩:∃ p q,tys=[p,q]:=by
       match tys,htk.trans hk2 with
       | [p,q],_=>exact ⟨p,q,rfl⟩
      have r0:(uV [p,q])[0]?=some [.int .i64 p]:=rfl
      have r1:(uV [p,q])[1]?=some [.int .i64 q]:=rfl
      by_cases hp:p=q
      ·skip
       refine dV rb (es:=tV es) (td:=.int .i64) (key:=Vi x.op) (r:=none) (.agg #[Vz,Vi 0]) (.tuple #[.agg #[Vz,Vi 0],.bool false]) (fun a w hJ=>MapAt.now (hmp.sees (S3.trans S14)) hJ) (hl) ?_
       refine go1 31 [.own,.b 0 0] [] ?_
       intro b45
       refine jV 19 0 [.pu,.ld 1 0,.v (fun gh=>.bool false),.pu,.ps,.ps,.ps,.ps,.pu,.pu,.ps,.ps,.ps,.ps,.ps,.ps,.ps,.pu,.pu] [] (trivial) ?_ ?_
       ·intro R hT hA hmono
        refine And.intro (zY hT hA (fun gh=>.bool false) (fun gh=>.bool (x.op == 17)) (fun gh=>congrArg Value.bool (beq_eq_false_iff_ne.2 h17))) ?_
        trivial
       rintro W46 S47 -
       refine go0 3 [] [] ?_
       obtain ⟨b48,o49,rfl,-,c50⟩:=RS.row fr (r0)
       refine vQ (c50.sees S47) ?_
       have c51:=RS.cell fr (r1)
       refine vQ (c51.sees S47) ?_
       refine jV 13 0 [.pu,.ld 1 0,.v (fun gh=>.bool true),.pu,.pu,.v (fun gh=>.pointer (some ⟨b48,o49 + 0 * 1,none⟩)),.lf 1 0,.pu,.v (fun gh=>.pointer (some ⟨b48,o49 + 1 * 1,none⟩)),.lf 0 0,.v (fun gh=>.bool true),.pu,.pu] [] (trivial) ?_ ?_
       ·intro R hT hA hmono
        refine And.intro (zY hT hA (fun gh=>.bool true) (fun gh=>.bool (x.op != 17)) (fun gh=>congrArg Value.bool (bne_iff_ne.2 h17))) ?_
        refine And.intro (aZ hT hA b48 o49 k c2 0 (fun gh=>.pointer (some ⟨b48,o49 + 0 * 1,none⟩)) (by first | omega | (simp; omega))) ?_
        refine And.intro (aZ hT hA b48 o49 k c2 1 (fun gh=>.pointer (some ⟨b48,o49 + 1 * 1,none⟩)) (by first | omega | (simp; omega))) ?_
        refine And.intro (zY hT hA (fun gh=>.bool true) (fun gh=>.bool (p == q)) (fun gh=>congrArg Value.bool (beq_iff_eq.2 hp))) ?_
        trivial
       rintro W52 S53 -
       refine go0 11 [] [] ?_
       refine hQ.to [Vi 2,Vi 0] (fun H sH=>?_)
       exact ret2 (by rw [htE,if_pos rfl]; unfold opTy; rw [hru]; simp [h17,hp])
      ·skip
       refine dV rb (es:=tV es) (td:=.int .i64) (key:=Vi x.op) (r:=none) (.agg #[Vz,Vi 0]) (.tuple #[.agg #[Vz,Vi 0],.bool false]) (fun a w hJ=>MapAt.now (hmp.sees (S3.trans S14)) hJ) (hl) ?_
       refine go1 31 [.own,.b 0 0] [] ?_
       intro b54
       refine jV 19 0 [.pu,.ld 1 0,.v (fun gh=>.bool false),.pu,.ps,.ps,.ps,.ps,.pu,.pu,.ps,.ps,.ps,.ps,.ps,.ps,.ps,.pu,.pu] [] (trivial) ?_ ?_
       ·intro R hT hA hmono
        refine And.intro (zY hT hA (fun gh=>.bool false) (fun gh=>.bool (x.op == 17)) (fun gh=>congrArg Value.bool (beq_eq_false_iff_ne.2 h17))) ?_
        trivial
       rintro W55 S56 -
       refine go0 3 [] [] ?_
       obtain ⟨b57,o58,rfl,-,c59⟩:=RS.row fr (r0)
       refine vQ (c59.sees S56) ?_
       have c60:=RS.cell fr (r1)
       refine vQ (c60.sees S56) ?_
       refine jV 13 0 [.pu,.ld 1 0,.v (fun gh=>.bool true),.pu,.pu,.v (fun gh=>.pointer (some ⟨b57,o58 + 0 * 1,none⟩)),.lf 1 0,.pu,.v (fun gh=>.pointer (some ⟨b57,o58 + 1 * 1,none⟩)),.lf 0 0,.v (fun gh=>.bool false),.pu,.pu] [] (trivial) ?_ ?_
       ·intro R hT hA hmono
        refine And.intro (zY hT hA (fun gh=>.bool true) (fun gh=>.bool (x.op != 17)) (fun gh=>congrArg Value.bool (bne_iff_ne.2 h17))) ?_
        refine And.intro (aZ hT hA b57 o58 k c2 0 (fun gh=>.pointer (some ⟨b57,o58 + 0 * 1,none⟩)) (by first | omega | (simp; omega))) ?_
        refine And.intro (aZ hT hA b57 o58 k c2 1 (fun gh=>.pointer (some ⟨b57,o58 + 1 * 1,none⟩)) (by first | omega | (simp; omega))) ?_
        refine And.intro (zY hT hA (fun gh=>.bool false) (fun gh=>.bool (p == q)) (fun gh=>congrArg Value.bool (beq_eq_false_iff_ne.2 hp))) ?_
        trivial
       rintro W61 S62 -
       refine go0 12 [] [] ?_
       refine hQ.to [Vi 0,Vi 9] (fun H sH=>?_)
       exact ret2 (by rw [htE,if_pos rfl]; unfold opTy; rw [hru]; simp [h17,hp])
end Go.Proofs.YtjpgjnldeafpkaaGreat
namespace Go.Proofs.YtjpgjnldeafpkaaGreat
open Go.RowKit
def mpB:Value→Nat | .map (some b)=>b | _=>0
theorem types_u (fs:List Fd) (v:Value) (h:Vw) (hf:IsFds h v fs):C0 Tryz.prog 162 #[v] h (fun r h'=>∃ u,r=.map (some (mpB u))∧TypesAt h' (mpB u) (tyF fs)):=by
 intro a b c d
 refine (types_any fs v h hf a b c d).mono ?_
 rintro e w' ⟨v,Bo,rfl,h1,h2,h3,b,rfl,h4⟩
 exact ⟨_,Bo,rfl,h1,h2,h3,.map (some b),rfl,h4⟩
theorem rules_u (h:Vw):C0 Tryz.prog 163 #[] h (fun r h'=>∃ u,r=.map (some (mpB u))∧RulesAt h' (mpB u)):=by
 intro a b c d
 refine (rules_any h a b c d).mono ?_
 rintro e w' ⟨v,Bo,rfl,h1,h2,h3,b,rfl,h4⟩
 exact ⟨_,Bo,rfl,h1,h2,h3,.map (some b),rfl,h4⟩
def ofE (fs:List Fd) (x:Ex):Int × Int:=if chkE x=0 then tyE (tyF fs) x else (0,chkE x)
theorem tyOf_any (fs:List Fd) (x:Ex) (v fv:Value) (h:Vw) (hx:IsArgs h x v) (hw:WfE x) (hb:(szE x).1 < 1000000) (hf:IsFds h fv fs) :
  C0 Tryz.prog 136 #[.agg #[.int .i64 x.op,.int .i64 x.k,.int .i64 x.n,.string x.s,.string x.nm,v],fv] h (fun r _=>r=.tuple #[.int .i64 (ofE fs x).1,.int .i64 (ofE fs x).2]):=by
 obtain ⟨A,n,c,rfl⟩:=hx.slice
 obtain ⟨Af,nf,cf,rfl⟩:∃ A n c,fv=.slice A n c:=by
  obtain ⟨vs,hr,-⟩:=hf
  obtain ⟨A,c,e,-⟩:=hr.form
  exact ⟨_,_,_,e⟩
 have hck:=fun H q=>check_any x (.slice A n c) H q hw hb
 have hO:=fun fb rb H q1 q2 q3=>tyof_any (tyF fs) fb rb _ x (.slice A n c) H (Nat.le_refl _) q1 hw q2 q3
 have hTy:=fun H q=>types_u fs (.slice Af nf cf) H q
 unfold ofE
 generalize chkE x=e at *
 generalize tyE (tyF fs) x=ty at *
 refine uQ Tryz.func136 (c:=Tryz.f136.body.getD .skip) (N:=19) ?_
 intro hbx hbad Q hQ
 refine go1 21 [.own,.b 0 0,.cl 112 #[.agg #[Vi x.op,Vi x.k,Vi x.n,.string x.s,.string x.nm,.slice A n c]] (Vi e)] [] ?_ (ho:=(And.intro (fun H sH=>hck _ (hx.sees sH)) (trivial)))
 intro b1
 by_cases he:e=0
 ·skip
  refine wQ (t:=e != 0) (bne_eq_false_iff_eq.2 he) ?_
  refine go0 3 [] [] ?_
  refine jV 9 0 [.ld 0 0,.pu,.f (fun gh=>.map (some (mpB (gh 2)))) (fun gh hh=>TypesAt hh (mpB (gh 2)) (tyF fs)),.f (fun gh=>.map (some (mpB (gh 3)))) (fun gh hh=>RulesAt hh (mpB (gh 3))),.v (fun gh=>.tuple #[Vi ty.1,Vi ty.2]),.pu,.pu,.pu,.pu] [(2,false),(3,false)] (And.intro (fun _ _ _ s c=>c.sees s) (And.intro (fun _ _ _ s c=>c.sees s) (trivial))) ?_ ?_
  ·intro R hT hA hmono
   refine And.intro (qX hT hA hmono ⟨fun _ _=>by kernel_rfl,fun _ _=>by kernel_rfl,fun _ _=>by kernel_rfl⟩ 14 (fun u=>.map (some (mpB u))) [1] 2 162 (fun gh=>#[.slice Af nf cf]) (fun gh H sH fH lent=>C0.facts (R:=R) (x:=gh) (i:=2) (n:=0) (F:=(fun u=>.map (some (mpB u)))) (G:=fun u hh=>TypesAt hh (mpB u) (tyF fs)) (f:=fun gh hh=>TypesAt hh (mpB (gh 2)) (tyF fs)) (hTy _ (hf.sees sH)) (by kernel_rfl) (by kernel_rfl) (fun _ _ r=>r))) ?_
   refine And.intro (qX hT hA hmono ⟨fun _ _=>by kernel_rfl,fun _ _=>by kernel_rfl,fun _ _=>by kernel_rfl⟩ 15 (fun u=>.map (some (mpB u))) [2] 3 163 (fun gh=>#[]) (fun gh H sH fH lent=>C0.facts (R:=R) (x:=gh) (i:=3) (n:=1) (F:=(fun u=>.map (some (mpB u)))) (G:=fun u hh=>RulesAt hh (mpB u)) (f:=fun gh hh=>RulesAt hh (mpB (gh 3))) (rules_u _) (by kernel_rfl) (by kernel_rfl) (fun _ _ r=>r))) ?_
   refine And.intro (t_v hT hA hmono (k:=161) (args:=(fun gh=>#[.agg #[Vi x.op,Vi x.k,Vi x.n,.string x.s,.string x.nm,.slice A n c],.map (some (mpB (gh 2))),.map (some (mpB (gh 3)))])) (f:=fun gh=>.tuple #[Vi ty.1,Vi ty.2]) (fun gh H sH fH lent=>hO _ _ _ (hx.sees sH) (fH 0 _ rfl (by kernel_rfl)) (fH 1 _ rfl (by kernel_rfl)))) ?_
   trivial
  rintro u14 u15 W2 S3 ⟨f14,f15,-⟩
  replace f14:TypesAt W2 (mpB u14) (tyF fs):=f14
  replace f15:RulesAt W2 (mpB u15):=f15
  refine go0 2 [] [] ?_
  refine hQ.to [Vi ty.1,Vi ty.2] (fun H sH=>?_)
  rw [if_pos he]; rfl
 ·skip
  refine mV (t:=e != 0) (bne_iff_ne.2 he) ?_
  refine go0 9 [] [] ?_
  refine hQ.to [Vi 0,Vi e] (fun H sH=>?_)
  rw [if_neg he]; rfl
def fitsE (fs:List Fd) (x:Ex) (want:Int):Int:=if (ofE fs x).2=0 then (if (ofE fs x).1=want then 0 else 9) else (ofE fs x).2
theorem fits_any (fs:List Fd) (x:Ex) (v fv:Value) (want:Int) (h:Vw) (hx:IsArgs h x v) (hw:WfE x) (hb:(szE x).1 < 1000000) (hf:IsFds h fv fs) :
  C0 Tryz.prog 149 #[.agg #[.int .i64 x.op,.int .i64 x.k,.int .i64 x.n,.string x.s,.string x.nm,v],fv,.int .i64 want] h (fun r _=>r=.int .i64 (fitsE fs x want)):=by
 obtain ⟨A,n,c,rfl⟩:=hx.slice
 obtain ⟨Af,nf,cf,rfl⟩:∃ A n c,fv=.slice A n c:=by
  obtain ⟨vs,hr,-⟩:=hf
  obtain ⟨A,c,e,-⟩:=hr.form
  exact ⟨_,_,_,e⟩
 have hO:=fun H q1 q2=>tyOf_any fs x (.slice A n c) (.slice Af nf cf) H q1 hw hb q2
 unfold fitsE
 generalize ofE fs x=ty at *
 refine uQ Tryz.func149 (c:=Tryz.f149.body.getD .skip) (N:=21) ?_
 intro hbx hbad Q hQ
 refine go1 25 [.own,.b 0 0,.cl 136 #[.agg #[Vi x.op,Vi x.k,Vi x.n,.string x.s,.string x.nm,.slice A n c],.slice Af nf cf] (.tuple #[Vi ty.1,Vi ty.2])] [] ?_ (ho:=(And.intro (fun H sH=>hO _ (hx.sees sH) (hf.sees sH)) (trivial)))
 intro b1
 by_cases he:ty.2=0
 ·refine wQ (t:=ty.2 != 0) (bne_eq_false_iff_eq.2 he) ?_
  refine go0 10 [] [] ?_
  by_cases hw:ty.1=want
  ·refine wQ (t:=ty.1 != want) (bne_eq_false_iff_eq.2 hw) ?_
   refine go0 8 [] [] ?_
   refine hQ.to [Vi 0] (fun H sH=>?_)
   rw [if_pos he,if_pos hw]; rfl
  ·skip
   refine mV (t:=ty.1 != want) (bne_iff_ne.2 hw) ?_
   refine go0 7 [] [] ?_
   refine hQ.to [Vi 9] (fun H sH=>?_)
   rw [if_pos he,if_neg hw]; rfl
 ·skip
  refine mV (t:=ty.2 != 0) (bne_iff_ne.2 he) ?_
  refine go0 8 [] [] ?_
  refine hQ.to [Vi ty.2] (fun H sH=>?_)
  rw [if_neg he]; rfl
end Go.Proofs.YtjpgjnldeafpkaaGreat
namespace Go.Proofs.YtjpgjnldeafpkaaGreat
open Go.RowKit
set_option linter.unusedVariables false
structure OkF (fs:List Fd) (f:Fd):Prop where
 name:rJ f.name.data.toList
 k1:1≤f.kind
 k3:f.kind≤3
 t1:1≤f.ty
 t3:f.ty≤3
 inp:f.kind=1→f.src=zE
 wf:f.kind≠1→WfE f.src∧(szE f.src).1≤60∧chkE f.src=0
 form:f.kind=2→tyE (tyF fs) f.src=(f.ty,0)
 look:f.kind=3→∃ t,1≤t∧t≤3∧tyE (tyF fs) f.src=(t,0)
structure OkFs (fs:List Fd):Prop where
 each:∀ f∈fs,OkF fs f
 nodup:(fs.map (·.name)).Nodup
 few:fs.length≤14
theorem args_zero {h:Vw} {x:Ex} {v:Value} (hx:x.args=[]) (ha:IsArgs h x v):∃ A c,v=.slice A 0 c:=by
 obtain ⟨vs,hr,-⟩:=ha.form
 obtain ⟨A,c,e,-⟩:=hr.form
 rw [hx] at e
 exact ⟨A,c,e⟩
theorem none_any (A:Option Addr) (c:Nat) (h:Vw):C0 Tryz.prog 193 #[.agg #[.int .i64 0,.int .i64 0,.int .i64 0,.string ⟨#[]⟩,.string ⟨#[]⟩,.slice A 0 c]] h (fun r _=>r=.bool true):=by
 refine uQ Tryz.func193 (c:=Tryz.f193.body.getD .skip) (N:=23) ?_
 intro hbx hbad Q hQ
 refine go1 32 [.own,.b 0 0,.b 0 4,.b 0 1,.b 0 5] [] ?_
 intro b1
 refine hQ.to [.bool true] (fun H sH=>?_)
 exact rfl
theorem right_any (fs:List Fd) (f:Fd) (v:Value) (h:Vw) (hf:OkF fs f) (ha:IsArgs h f.src v):C0 Tryz.prog 164 #[.agg #[.string f.name,.int .i64 f.kind,.int .i64 f.ty,.int .i64 f.src.op,.int .i64 f.src.k,.int .i64 f.src.n,.string f.src.s,.string f.src.nm,v]] h (fun r _=>r=.int .i64 0):=by
 have hn:=fun H=>c_name f.name H hf.name
 have k1:=hf.k1
 have k3:=hf.k3
 have t1:=hf.t1
 have t3:=hf.t3
 by_cases g:f.kind=1
 ·obtain ⟨A,c,rfl⟩:=args_zero (by rw [hf.inp g]; rfl) ha
  have e1:f.src.op=0:=by rw [hf.inp g]; rfl
  have e2:f.src.k=0:=by rw [hf.inp g]; rfl
  have e3:f.src.n=0:=by rw [hf.inp g]; rfl
  have e4:f.src.s=⟨#[]⟩:=by rw [hf.inp g]; rfl
  have e5:f.src.nm=⟨#[]⟩:=by rw [hf.inp g]; rfl
  rw [e1,e2,e3,e4,e5,g]
  refine uQ Tryz.func164 (c:=Tryz.f164.body.getD .skip) (N:=38) ?_
  intro hbx hbad Q hQ
  refine go1 78 [.own,.b 0 0,.cl 146 #[.string f.name] (Vi 0),.b 0 1,.b 0 1,.b 0 2,.b 0 2,.b 0 1,.b 0 3,.cl 193 #[.agg #[Vi 0,Vi 0,Vi 0,Ve,Ve,.slice A 0 c]] (.bool true)] [(21,.bool (decide (f.ty < 1)),.bool false),(26,.bool (decide (f.ty > 3)),.bool false)] ?_ (ho:=(And.intro (fun H sH=>hn _) (And.intro (fun H sH=>none_any A c _) (trivial)))) (hc:=(And.intro (congrArg Value.bool (decide_eq_false (by omega))) (And.intro (congrArg Value.bool (decide_eq_false (by omega))) (trivial))))
  intro b1
  refine hQ.to [Vi 0] (fun H sH=>?_)
  exact rfl
 ·obtain ⟨w1,w2,w3⟩:=hf.wf g
  obtain ⟨A,n,c,rfl⟩:=ha.slice
  have hc:=fun H q=>check_any f.src (.slice A n c) H q w1 (by omega)
  rw [w3] at hc
  refine uQ Tryz.func164 (c:=Tryz.f164.body.getD .skip) (N:=38) ?_
  intro hbx hbad Q hQ
  refine go1 70 [.own,.b 0 0,.cl 146 #[.string f.name] (Vi 0),.b 0 1,.b 0 1,.b 0 2,.b 0 2,.b 0 1,.b 0 3,.cl 112 #[.agg #[Vi f.src.op,Vi f.src.k,Vi f.src.n,.string f.src.s,.string f.src.nm,.slice A n c]] (Vi 0)] [(12,.bool (decide (f.kind < 1)),.bool false),(16,.bool (decide (f.kind > 3)),.bool false),(21,.bool (decide (f.ty < 1)),.bool false),(26,.bool (decide (f.ty > 3)),.bool false),(30,.bool (f.kind == 1),.bool false)] ?_ (ho:=(And.intro (fun H sH=>hn _) (And.intro (fun H sH=>hc _ (ha.sees sH)) (trivial)))) (hc:=(And.intro (congrArg Value.bool (decide_eq_false (by omega))) (And.intro (congrArg Value.bool (decide_eq_false (by omega))) (And.intro (congrArg Value.bool (decide_eq_false (by omega))) (And.intro (congrArg Value.bool (decide_eq_false (by omega))) (And.intro (congrArg Value.bool (beq_eq_false_iff_ne.2 g)) (trivial)))))))
  intro b1
  refine hQ.to [Vi 0] (fun H sH=>?_)
  exact rfl
theorem typed_any (fs:List Fd) (f:Fd) (v fv:Value) (h:Vw) (hf:OkF fs f) (ha:IsArgs h f.src v) (hfs:IsFds h fv fs):C0 Tryz.prog 165 #[.agg #[.string f.name,.int .i64 f.kind,.int .i64 f.ty,.int .i64 f.src.op,.int .i64 f.src.k,.int .i64 f.src.n,.string f.src.s,.string f.src.nm,v],fv] h (fun r _=>r=.int .i64 0):=by
 obtain ⟨A,n,c,rfl⟩:=ha.slice
 obtain ⟨vs,Af,cf,rfl,-⟩:=dQ hfs
 obtain g | g | g:f.kind=1∨f.kind=2∨f.kind=3:=by have:=hf.k1; have:=hf.k3; omega
 ·rw [g]
  refine uQ Tryz.func165 (c:=Tryz.f165.body.getD .skip) (N:=27) ?_
  intro hbx hbad Q hQ
  refine go1 37 [.own,.b 0 1] [] ?_
  intro b1
  refine hQ.to [Vi 0] (fun H sH=>?_)
  exact rfl
 ·obtain ⟨w1,w2,w3⟩:=hf.wf (by omega)
  have hc:=fun H q1 q2=>fits_any fs f.src (.slice A n c) (.slice Af fs.length cf) f.ty H q1 w1 (by omega) q2
  have e:fitsE fs f.src f.ty=0:=by unfold fitsE ofE; rw [if_pos w3,hf.form g]; simp
  rw [e] at hc
  rw [g]
  refine uQ Tryz.func165 (c:=Tryz.f165.body.getD .skip) (N:=27) ?_
  intro hbx hbad Q hQ
  refine go1 35 [.own,.b 0 1,.b 0 3,.b 0 2,.cl 149 #[.agg #[Vi f.src.op,Vi f.src.k,Vi f.src.n,.string f.src.s,.string f.src.nm,.slice A n c],.slice Af fs.length cf,Vi f.ty] (Vi 0)] [] ?_ (ho:=(And.intro (fun H sH=>hc _ (ha.sees sH) (hfs.sees sH)) (trivial)))
  intro b1
  refine hQ.to [Vi 0] (fun H sH=>?_)
  exact rfl
 ·obtain ⟨w1,w2,w3⟩:=hf.wf (by omega)
  obtain ⟨t,-,-,ht⟩:=hf.look g
  have hc:=fun H q1 q2=>tyOf_any fs f.src (.slice A n c) (.slice Af fs.length cf) H q1 w1 (by omega) q2
  have e:ofE fs f.src=(t,0):=by unfold ofE; rw [if_pos w3,ht]
  rw [e] at hc
  rw [g]
  refine uQ Tryz.func165 (c:=Tryz.f165.body.getD .skip) (N:=27) ?_
  intro hbx hbad Q hQ
  refine go1 50 [.own,.b 0 1,.b 0 3,.cl 136 #[.agg #[Vi f.src.op,Vi f.src.k,Vi f.src.n,.string f.src.s,.string f.src.nm,.slice A n c],.slice Af fs.length cf] (.tuple #[Vi t,Vi 0])] [] ?_ (ho:=(And.intro (fun H sH=>hc _ (ha.sees sH) (hfs.sees sH)) (trivial)))
  intro b1
  refine hQ.to [Vi 0] (fun H sH=>?_)
  exact rfl
theorem AllArgs.take' {h:Vw}:∀ (i:Nat) {l:List Ex} {vs:List Value},AllArgs h l vs→AllArgs h (l.take i) (vs.take i)
 | 0,l,vs,_=>by rw [List.take_zero,List.take_zero]; unfold AllArgs; rfl
 | i + 1,[],vs,k=>by unfold AllArgs at k; subst k; rw [List.take_nil,List.take_nil]; unfold AllArgs; rfl
 | i + 1,x :: l,vs,k=>by
  unfold AllArgs at k
  obtain ⟨u,us',rfl,q1,q2⟩:=k
  rw [List.take_succ_cons,List.take_succ_cons]
  unfold AllArgs
  exact ⟨_,_,rfl,q1,AllArgs.take' i q2⟩
theorem fds_take {h:Vw} {A:Option Addr} {cap:Nat} {fs:List Fd} (hf:IsFds h (.slice A fs.length cap) fs) (k:Nat) (hk:k≤fs.length):IsFds h (.slice A k cap) (fs.take k):=by
 obtain ⟨vs,hr,hs⟩:=hf
 have hl:=hs.len
 refine ⟨vs.take k,?_,?_⟩
 ·have:=hr.take k (by rw [cQ hl]; omega)
  rwa [show (aQ fs vs).take k=aQ (fs.take k) (vs.take k) from List.take_zipWith] at this
 ·unfold AllSrc
  rw [List.map_take]
  exact AllArgs.take' k hs
set_option maxHeartbeats 2000000 in
theorem check_fields (fs:List Fd) (fv:Value) (h:Vw) (hf:OkFs fs) (hfs:IsFds h fv fs):C0 Tryz.prog 138 #[fv] h (fun r _=>r=.int .i64 0):=by
 obtain ⟨vs,A,c,rfl,hc1,hc2,hr,hsrc,hvl,hsl⟩:=dQ hfs
 have few:=hf.few
 refine uQ Tryz.func138 (c:=Tryz.f138.body.getD .skip) (N:=51) ?_
 intro hbx hbad Q hQ
 refine go0 13 [] [] ?_
 refine wQ (t:=decide ((fs.length:Int) > 14)) (decide_eq_false (by omega)) ?_
 refine go0 11 [] [] ?_
 refine cV [0,1,0,1,1] [.block 0,.seq [1,1,1]] (fun (k:Nat) X=>∃ (W1:Vw) ,X W1 [(0,.slice A fs.length c),(14,.slice A fs.length c),(15,Vi (fs.length:Int)),(16,Vi (k:Int))] [] []∧Sees h W1∧(k≤fs.length)) (fun k=>fs.length - k) (0) (fun X q=>⟨h,q _ _ _ _ ⟨rfl,by kernel_rfl⟩,Sees.refl _,Nat.zero_le _⟩) ?_
 rintro k a w ⟨W1,hJ,S2,hk⟩; refine gV hJ ?_; clear hJ a w
 refine go0 6 [] [] ?_
 rcases (by omega:k < fs.length∨k=fs.length) with hlt | hke
 ·obtain ⟨f,hfk⟩:∃ f,fs[k]?=some f:=⟨_,List.getElem?_eq_getElem (by omega)⟩
  obtain ⟨u,huk⟩:∃ u,vs[k]?=some u:=⟨_,List.getElem?_eq_getElem (by omega)⟩
  have hslu:=hsl u (List.mem_of_getElem? huk)
  have hrow:(aQ fs vs)[k]?=some (fdRow f (.slice (sA u) (sN u) (sC u))):=by rw [hslu]; exact bQ hfk huk
  have ha:IsArgs h f.src (.slice (sA u) (sN u) (sC u)):=by rw [hslu]; exact AllArgs.get hsrc (x:=f.src) (by rw [List.getElem?_map,hfk]; rfl) huk
  have hok:=hf.each f (List.mem_of_getElem? hfk)
  have hno:gQ (fs.take k) f.name = -1:=findF_none fun y hy e=>by
   obtain ⟨j,hj⟩:=List.mem_iff_getElem?.1 hy
   rw [List.getElem?_take] at hj
   split at hj
   ·rename_i hjk
    have h1:(fs.map (fun f:Fd=>f.name))[j]?=some f.name:=by rw [List.getElem?_map,hj]; simp [e]
    have h2:(fs.map (fun f:Fd=>f.name))[k]?=some f.name:=by rw [List.getElem?_map,hfk]; rfl
    have:=(List.getElem?_inj (by rw [List.length_map]; omega) hf.nodup).1 (h1.trans h2.symm)
    omega
   ·cases hj
  have htk:=fds_take hfs k hk
  refine mV (t:=decide ((k:Int) < (fs.length:Int))) (decide_eq_true (by omega)) ?_
  refine go0 7 [] [] ?_
  obtain ⟨b3,o4,rfl,-,c5⟩:=RS.row hr (hrow)
  refine vQ (c5.sees S2) ?_
  refine go1 25 [.ix b3 o4 fs.length c k,.f 0 0,.own,.b 0 0,.b 0 0,.cl 164 #[.agg #[.string f.name,Vi f.kind,Vi f.ty,Vi f.src.op,Vi f.src.k,Vi f.src.n,.string f.src.s,.string f.src.nm,.slice (sA u) (sN u) (sC u)]] (Vi 0)] [] ?_ (ho:=(And.intro (by first | omega | (simp; omega)) (And.intro (fun H sH=>right_any fs f _ _ hok (ha.sees (S2.trans sH))) (trivial))))
  intro b6
  refine jV 11 0 [.pu,.pu,.v (fun gh=>.slice (some ⟨b3,o4,none⟩) k c),.pu,.ld 0 0,.v (fun gh=>.tuple #[Vi 0,Vi 5]),.pu,.pu,.pu,.pu,.pu] [] (trivial) ?_ ?_
  ·intro R hT hA hmono
   refine And.intro (t_p hT hA (fun gh=>.slice (some ⟨b3,o4,none⟩) k c) (fun gh w=>run_hi (t:=23) (e:=47) (x:=(.tmp 27)) (y:=(.tmp 28)) (A:=(some ⟨b3,o4,none⟩)) (n:=fs.length) (cap:=c) (k:=k) (kk:=9) (by kernel_rfl) (by kernel_rfl) (by kernel_rfl) (by omega) Tryz.underlying23 (by kernel_rfl))) ?_
   refine And.intro (t_v hT hA hmono (k:=73) (args:=(fun gh=>#[.slice (some ⟨b3,o4,none⟩) k c,.string f.name])) (f:=fun gh=>.tuple #[Vi 0,Vi 5]) (fun gh H sH fH lent=>find_no (fs.take k) _ f.name _ (htk.sees (S2.trans sH)) (by rw [List.length_take]; omega) (by omega))) ?_
   trivial
  rintro W7 S8 -
  refine go0 15 [] [(37,Vi (IntKind.i64.wrap ((k:Int) + 1)),Vi ((k:Int) + 1))] ?_ (hc:=(And.intro (jJ (by omega) (by omega)) (trivial)))
  exact lV (k + 1) (fun X q=>⟨W7,q _ _ _ _ ⟨rfl,by kernel_rfl⟩,(S2.trans S8),by omega⟩) (by omega)
 ·skip
  refine wQ (t:=decide ((k:Int) < (fs.length:Int))) (decide_eq_false (by omega)) ?_
  refine go0 2 [] [] ?_
  refine aV ?_
  refine go0 11 [] [] ?_
  refine cV [0,1,0,1,1,1] [.block 2,.seq [1,1,1,1]] (fun (k2:Nat) X=>∃ (W9:Vw) ,X W9 [(0,.slice A fs.length c),(38,.slice A fs.length c),(39,Vi (fs.length:Int)),(40,Vi (k2:Int))] [] []∧Sees W1 W9∧(k2≤fs.length)) (fun k2=>fs.length - k2) (0) (fun X q=>⟨W1,q _ _ _ _ ⟨rfl,by kernel_rfl⟩,Sees.refl _,Nat.zero_le _⟩) ?_
  rintro k2 a w ⟨W9,hJ,S10,hk2⟩; refine gV hJ ?_; clear hJ a w
  refine go0 6 [] [] ?_
  rcases (by omega:k2 < fs.length∨k2=fs.length) with hlt2 | hke2
  ·obtain ⟨f,hfk⟩:∃ f,fs[k2]?=some f:=⟨_,List.getElem?_eq_getElem (by omega)⟩
   obtain ⟨u,huk⟩:∃ u,vs[k2]?=some u:=⟨_,List.getElem?_eq_getElem (by omega)⟩
   have hslu:=hsl u (List.mem_of_getElem? huk)
   have hrow:(aQ fs vs)[k2]?=some (fdRow f (.slice (sA u) (sN u) (sC u))):=by rw [hslu]; exact bQ hfk huk
   have ha:IsArgs h f.src (.slice (sA u) (sN u) (sC u)):=by rw [hslu]; exact AllArgs.get hsrc (x:=f.src) (by rw [List.getElem?_map,hfk]; rfl) huk
   have hok:=hf.each f (List.mem_of_getElem? hfk)
   refine mV (t:=decide ((k2:Int) < (fs.length:Int))) (decide_eq_true (by omega)) ?_
   refine go0 6 [] [] ?_
   obtain ⟨b11,o12,rfl,-,c13⟩:=RS.row hr (hrow)
   refine vQ (c13.sees (S2.trans S10)) ?_
   refine go1 28 [.ix b11 o12 fs.length c k2,.f 0 0,.own,.b 0 0,.b 0 0,.cl 165 #[.agg #[.string f.name,Vi f.kind,Vi f.ty,Vi f.src.op,Vi f.src.k,Vi f.src.n,.string f.src.s,.string f.src.nm,.slice (sA u) (sN u) (sC u)],.slice (some ⟨b11,o12,none⟩) fs.length c] (Vi 0)] [(50,Vi (IntKind.i64.wrap ((k2:Int) + 1)),Vi ((k2:Int) + 1))] ?_ (ho:=(And.intro (by first | omega | (simp; omega)) (And.intro (fun H sH=>typed_any fs f _ _ _ hok (ha.sees (S2.trans (S10.trans sH))) (hfs.sees (S2.trans (S10.trans sH)))) (trivial)))) (hc:=(And.intro (jJ (by omega) (by omega)) (trivial)))
   intro b14
   exact lV (k2 + 1) (fun X q=>⟨W9,q _ _ _ _ ⟨rfl,by kernel_rfl⟩,S10,by omega⟩) (by omega)
  ·skip
   refine wQ (t:=decide ((k2:Int) < (fs.length:Int))) (decide_eq_false (by omega)) ?_
   refine go0 2 [] [] ?_
   refine aV ?_
   refine go0 8 [] [] ?_
   refine hQ.to [Vi 0] (fun H sH=>?_)
   exact rfl
end Go.Proofs.YtjpgjnldeafpkaaGreat
