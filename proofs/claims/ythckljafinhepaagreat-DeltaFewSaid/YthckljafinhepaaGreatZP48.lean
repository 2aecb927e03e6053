/-
  Contracts of package nav: Next, Back; of the laws' filled.
-/
import Derived.Test.YthckljafinhepaaGreatZP9
import Derived.Test.YthckljafinhepaaGreatZP46
import Derived.Test.YthckljafinhepaaGreatZP47
import Derived.Test.YthckljafinhepaaGreatZP7
import Derived.Test.YthckljafinhepaaGreatZP44
import Derived.Test.YthckljafinhepaaGreatZP41
import Derived.Test.YthckljafinhepaaGreatZP45
set_option maxRecDepth 100000
namespace Go.Proofs.YthckljafinhepaaGreat
open Go.RowKit
set_option linter.unusedVariables false
end Go.Proofs.YthckljafinhepaaGreat
namespace Go.Proofs.YthckljafinhepaaGreat
open Go.RowKit
set_option linter.unusedVariables false
theorem va_len (l:List Vl):Len 3 (lZ l):=fun r hr=>by obtain ⟨x,-,rfl⟩:=List.mem_map.1 hr; rfl
theorem va_one (l:List Vl):One (lZ l):=fun r hr u hu=>by
 obtain ⟨p,-,rfl⟩:=List.mem_map.1 hr
 simp [Vl.cells] at hu
 rcases hu with rfl | rfl | rfl <;> rfl
theorem info_val:(Tryz.prog.info? 38).map (fun i=>(i.zero,i.size,i.bytes))=some (some (.agg #[.int .i64 0,.int .i64 0,.string ⟨#[]⟩]),3,32):=by kernel_rfl
set_option maxHeartbeats 2000000 in
theorem clone_val (v:Value) (l:List (List Value)) (w:World) (h:Sl w 3 v l) (hk:Len 3 l) (h1:One l) (hl:l.length * 32≤140737488355328) :
  Calls Tryz.prog 72 #[v] w (GivesOwn 38 3 l w):=by
 have q22:∀ (w:World) (a:Option Addr) (n c n' c':Nat),(binOp .eql 32 (.slice a n c) (.slice none n' c')).run Tryz.prog w=.ok (.bool a.isNone) w:=fun w a n c n' c'=>Lib.run_eql_slice_nil w _ _ a n c n' c' Tryz.underlying32
 obtain ⟨A,cap,rfl,c1,c2,hA⟩:=h.form
 cases A with
 | none =>
  obtain rfl:=hA rfl
  have h0:l.length=0:=by omega
  obtain rfl:=List.length_eq_zero_iff.1 h0
  go_enter Tryz.func72,Tryz.ntmps72
  go_wp2_with fail
  go_ret
  exact ⟨_,rfl,⟨by simp,.inl ⟨rfl,rfl⟩⟩,Evo.refl _⟩
 | some a =>
  have HR:=Lib.hid h
  have HK:=Lib.hid hk
  have H1:=Lib.hid h1
  clear h hk h1
  go_enter Tryz.func72,Tryz.ntmps72
  go_wp2_with (at_builtin; refine wpList_append_rows rfl (.tmp 5) (.tmp 6) 32 rfl 38 _ 3 32 Tryz.underlying32 info_val rfl (by decide) w ((Evo.refl _).alloc _) [] l _ _ rfl rfl ⟨World.ownsRow_made w #[] 0 (Nat.le_refl _) (Nat.zero_le _) (by simp)⟩ (HR.out.at ((Evo.refl _).alloc _)) HK.out H1.out ?c1 ?c2 ?_)
  case c1=>simp; omega
  case c2=>simpa using hl
  intro v' w1 hown hbl hg
  have HW:=Lib.hid (⟨hown,hbl⟩:Own w1 w.heap.size 38 3 v' ([]++l).length ([]++l).flatten∧Evo w w1)
  clear hown hg hbl
  go_wp2_with fail
  go_ret
  exact ⟨_,rfl,HW.out.1,HW.out.2⟩
def ClV (n:Nat) (l:List Vl) (r u:Value) (k:List (List Value)) (h:Vw):Prop:=r=u∧(∃ b c,u=.slice (some ⟨b,0,none⟩) n c)∧k=lZ l
theorem cloneV_own {h:Vw} {v:Value} {l:List Vl} {n:Nat} (hr:RS h 3 v (lZ l)) (hn:l.length=n) (h0:0 < n) (hl:n≤1000000):C0 Tryz.prog 72 #[v] h (fun v h'=>∃ u r,Ent.ok h.w.heap.size h'.w (.row u 38 3 r)∧ClV n l v u r ⟨h'.w,u.ownBlock.toList++h'.bad⟩):=by
 intro a1 a2 a3 a4
 refine (CRow.slu (CRow.of_own (va_len l) (clone_val v (lZ l) h.w (Sl.of_rs hr) (va_len _) (va_one _) (by rw [List.length_map]; omega))) a1 a2 a3 a4).mono ?_
 rintro en w' ⟨v,Bo,h1,h2,h3,h4,r,h5,-,rfl⟩
 obtain ⟨A,c,rfl,-,-⟩:=mY h5
 obtain ⟨b,rfl⟩:=own_some h5 (by rw [List.length_map]; omega)
 exact ⟨_,Bo,h1,h2,h3,h4,_,_,h5,rfl,⟨b,c,by rw [List.length_map,hn]⟩,rfl⟩
set_option maxHeartbeats 4000000 in
theorem delFacts_own (fs:List Fd) (va:List Vl) (A:Option Addr) (n c:Nat) (A1:Option Addr) (c1:Nat) (h:Vw) (hf:IsFds h (.slice A n c) fs) (hn:n=fs.length) (few:n≤1000) (ha:RS h 3 (.slice A1 n c1) (lZ va)) (la:va.length=n) :
  C0 Tryz.prog 76 #[.slice A n c,.slice A1 n c1] h (fun v h'=>∃ u lu,Ent.ok h.w.heap.size h'.w (.row u 54 7 lu)∧(∃ z,u=.slice (sA z) (sN z) (sC z))∧v=u∧lu=yK (fcs fs va)):=by
 obtain ⟨vs,A',c',e,-,-,hr,hs,hvl,hsl⟩:=dQ hf
 simp only [Value.slice.injEq] at e
 obtain ⟨rfl,-,rfl⟩:=e
 rw [← hn] at hr hvl
 have hfl:=fun k (q:k≤n)=>fcs_len (fs:=fs.take k) (v:=va.take k) (by simp; omega)
 refine aV Tryz.func76 (c:=Tryz.f76.body.getD .skip) (N:=27) ?_
 intro hbx hbad Q hQ
 refine go0 19 [] [] ?_
 refine oV 54 7 ?_
 refine jV [0,1,0,1,1] [.block 0,.seq [1,1,1]] (fun (k:Nat) X=>∃ (W1:Vw) (v:Value),X W1 [(1,.slice A1 n c1),(8,.slice A n c),(9,Vi (n:Int)),(10,Vi (k:Int)),(5,v)] [.row v 54 7 (yK (fcs (fs.take k) (va.take k)))] []∧Sees h W1∧(k≤n)) (fun k=>n - k) (0) (fun X q=>⟨h,(Vz),q _ _ _ _ ⟨rfl,by kernel_rfl⟩,Sees.refl _,Nat.zero_le _⟩) ?_
 rintro k a w ⟨W1,v,hJ,S2,hk⟩; refine pV hJ ?_; clear hJ a w
 refine go0 6 [] [] ?_
 rcases (by omega:k < n∨k=n) with hlt | hke
 ·obtain ⟨x,hx⟩:∃ x,fs[k]?=some x:=⟨_,List.getElem?_eq_getElem (by omega)⟩
  obtain ⟨u,hu⟩:∃ u,vs[k]?=some u:=⟨_,List.getElem?_eq_getElem (by omega)⟩
  obtain ⟨xa,hxa⟩:∃ y,va[k]?=some y:=⟨_,List.getElem?_eq_getElem (by omega)⟩
  have hrow:=bQ hx hu
  have hra:=mZ hxa
  obtain ⟨Au,nu,cu,rfl⟩:=(AllArgs.get hs (x:=x.src) (by rw [List.getElem?_map,hx]; rfl) hu).slice
  have hsn:=fcs_snoc (fs:=fs.take k) (vs:=va.take k) x xa (by simp; omega)
  rw [← fZ _ k x hx,← fZ _ k xa hxa] at hsn
  have hl2:=hfl k hk
  rw [List.length_take] at hl2
  have hl3:(yK (fcs (fs.take k) (va.take k))).length=(fcs (fs.take k) (va.take k)).length:=List.length_map _
  refine uV (t:=decide ((k:Int) < (n:Int))) (decide_eq_true (by omega)) ?_
  refine go0 7 [] [] ?_
  obtain ⟨b3,o4,rfl,-,c5⟩:=RS.row hr (hrow)
  refine cV (c5.sees S2) ?_
  refine go1 7 [.ix b3 o4 n c k,.f 0 0,.own,.b 0 0] [] ?_ (ho:=(And.intro (by first | omega | (simp; omega)) (trivial)))
  intro b6
  obtain ⟨b7,o8,rfl,-,c9⟩:=RS.row ha (hra)
  refine cV (c9.sees S2) ?_
  refine rV 11 0 [.pu,.pu,.ld 0 0,.pu,.pu,.v (fun gh=>.pointer (some ⟨b7,o8 + k * 3,none⟩)),.lf 0 0,.pu,.f (fun gh=>.slice (some ⟨(wJ (gh 8)),0,none⟩) 1 1) (fun gh hh=>Cells hh (wJ (gh 8)) 0 [.string x.name,Vi 0,Vi 0,Ve,Vi xa.k,Vi xa.n,.string xa.s]),.e (fun gh=>.slice (sA (gh 9)) (sN (gh 9)) (sC (gh 9))) 1 (fun gh=>.row (.slice (sA (gh 9)) (sN (gh 9)) (sC (gh 9))) 54 7 ((yK (fcs (fs.take k) (va.take k)))++[[.string x.name,Vi 0,Vi 0,Ve,Vi xa.k,Vi xa.n,.string xa.s]])),.pu] [(8,true),(9,false)] (And.intro (fun _ _ _ s c=>c.sees s) (trivial)) ?_ ?_
  ·intro R hT hA hmono
   refine And.intro (eZ hT hA b7 o8 n c1 k (fun gh=>.pointer (some ⟨b7,o8 + k * 3,none⟩)) (by first | omega | (simp; omega))) ?_
   refine And.intro (r_fact hT hA hmono ⟨fun _ _=>by kernel_rfl,fun _ _=>by kernel_rfl,fun _ _=>by kernel_rfl⟩ 23 (fun g=>Vs g 1 1) [7] 8 (by kernel_rfl) (by kernel_rfl) (fun _=>by kernel_rfl) (fun gh=>[.string x.name,Vi 0,Vi 0,Ve,Vi xa.k,Vi xa.n,.string xa.s]) 54 (fun _ _=>by kernel_rfl) (fun gh zb zH zc zj zq zhq zhe=>own_fact (i:=8) (k:=0) (f:=fun gh hh=>Cells hh (wJ (gh 8)) 0 [.string x.name,Vi 0,Vi 0,Ve,Vi xa.k,Vi xa.n,.string xa.s]) (by kernel_rfl) (by kernel_rfl) zc zj zq zhq zhe)) ?_
   refine And.intro (zX hT hA hmono ⟨fun _ _=>by kernel_rfl,fun _ _=>by kernel_rfl,fun _ _=>by kernel_rfl⟩ 24 [0,8] 9 1 (GN R 1) (fun gh=>v) 28 54 7 (fun gh=>yK (fcs (fs.take k) (va.take k))) (fun gh=>[[.string x.name,Vi 0,Vi 0,Ve,Vi xa.k,Vi xa.n,.string xa.s]]) (.tmp 15) (.tmp 23) (fun gh=>(wJ (gh 8))) 1 1 0 8 (fun gh hh=>Cells hh (wJ (gh 8)) 0 [.string x.name,Vi 0,Vi 0,Ve,Vi xa.k,Vi xa.n,.string xa.s]) (fun _ _ c=>c) Tryz.underlying28 (zv:=.agg #[Ve,Vi 0,Vi 0,Ve,Vi 0,Vi 0,Ve]) (bytes:=80) (fun _=>by constructor <;> (simp; omega))) ?_
   trivial
  rintro b11 v24 W12 S13 ⟨f10,-⟩
  replace f10:Cells W12 b11 0 [.string x.name,Vi 0,Vi 0,Ve,Vi xa.k,Vi xa.n,.string xa.s]:=f10
  refine cV f10 ?_
  refine go0 6 [] [(25,Vi (IntKind.i64.wrap ((k:Int) + 1)),Vi ((k:Int) + 1))] ?_ (hc:=(And.intro (jJ (by omega) (by omega)) (trivial)))
  refine gV [(1,.slice (some ⟨b7,o8,none⟩) n c1),(8,.slice (some ⟨b3,o4,none⟩) n c),(9,Vi (n:Int)),(5,.slice (sA v24) (sN v24) (sC v24)),(10,Vi ((k:Int) + 1))] [.row (.slice (sA v24) (sN v24) (sC v24)) 54 7 ((yK (fcs (fs.take k) (va.take k)))++[[.string x.name,Vi 0,Vi 0,Ve,Vi xa.k,Vi xa.n,.string xa.s]])] [] ?_
  exact tV (k + 1) (fun X q=>⟨W12,.slice (sA v24) (sN v24) (sC v24),q _ _ _ _ (xY (by rw [hsn,zK]; try rfl)),(S2.trans S13),by omega⟩) (by omega)
 ·skip
  have t1:fs.take k=fs:=by rw [hke,hn,List.take_length]
  have t2:va.take k=va:=by rw [hke,← la,List.take_length]
  rw [t1,t2]
  have hrl:(yK (fcs fs va)).length=(fcs fs va).length:=List.length_map _
  refine eV 0 (v:=v) (e:=54) (kk:=7) (l:=yK (fcs fs va)) ?_; intro Ar cr hE_v hc_v hm_v
  rw [show (yK (fcs fs va)).length=(fcs fs va).length from by first | omega | (simp; done) | (simp; omega)] at hE_v hc_v
  rw [hE_v]
  refine dV (t:=decide ((k:Int) < (n:Int))) (decide_eq_false (by omega)) ?_
  refine go0 2 [] [] ?_
  refine iV ?_
  refine go0 9 [] [] ?_
  refine hQ.toJ [.slice Ar ((fcs fs va).length) cr] [] (fun a w hJ=>?_)
  have fo:=hJ.rowOwn (v:=.slice Ar ((fcs fs va).length) cr) (e:=54) (kk:=7) (l:=yK (fcs fs va)) 0 (by kernel_rfl)
  exact ⟨_,_,fo,⟨.slice Ar (fcs fs va).length cr,rfl⟩,rfl,rfl⟩
def chL (ch:List (ByteArray × Bool)):List (ByteArray × Value):=ch.map fun p=>(p.1,.bool p.2)
abbrev chEs (ch:List (ByteArray × Bool)):List (Value × Value):=cZ (chL ch)
theorem chEs_snoc (ch:List (ByteArray × Bool)) (s:ByteArray) (b:Bool):chEs (ch++[(s,b)])=chEs ch++[(.string s,.bool b)]:=by unfold chEs chL cZ; rw [List.map_append,List.map_append]; rfl
theorem ch_get (s:ByteArray):∀ ch:List (ByteArray × Bool),sget s (chL ch)=some (.bool (chB ch s))∨(sget s (chL ch)=none∧chB ch s=false)
 | []=>.inr ⟨rfl,rfl⟩
 | p :: l=>by
  have ih:=ch_get s l
  unfold chL at ih ⊢
  rw [List.map_cons,sget,chB]
  by_cases e:(s == p.1)=true
  ·rw [if_pos e,if_pos e]; exact .inl rfl
  ·rw [if_neg e,if_neg e]; exact ih
theorem ch_new {s:ByteArray}:∀ {ch:List (ByteArray × Bool)},(∀ q∈ch,q.1≠s)→mfind .string (.string s) (chEs ch)=some none:=fun {ch} h=>mfind_none (by
 induction ch with
 | nil=>rfl
 | cons p l ih =>
  unfold chL at ih ⊢
  rw [List.map_cons,sget,if_neg fun e=>h p (by simp) ((Go.MapKept.bytes_beq _ _).1 e).symm]
  exact ih fun q hq=>h q (by simp [hq]))
theorem chc_any (ch:List (ByteArray × Bool)) (s:ByteArray) (b bm:Nat) (h:Vw) (hb:Cells h b 0 [.map (some bm)]) (hm:MapAt h bm (chEs ch)):C0 Tryz.prog 75 #[.string s,.pointer (some ⟨b,0,none⟩)] h (fun r _=>r=.bool (chB ch s)):=by
 rcases ch_get s ch with hk | ⟨hk,e⟩
 ·obtain ⟨i,hi⟩:=mfind_some hk
  refine aV Tryz.func75 (c:=Tryz.f75.body.getD .skip) (N:=7) ?_
  intro hbx hbad Q hQ
  refine cV (hb.sees (Sees.refl _)) ?_
  refine go0 9 [.f 0 0] [] ?_
  refine lV bm (es:=chEs ch) (td:=.string) (key:=.string s) (r:=some (i,.bool (chB ch s))) (.bool false) (.bool (chB ch s)) (fun a w hJ=>MapAt.now (hm.sees (Sees.refl _)) hJ) (hi) ?_
  refine go0 4 [] [] ?_
  refine hQ.to [.bool (chB ch s)] (fun H sH=>?_)
  exact rfl
 ·refine aV Tryz.func75 (c:=Tryz.f75.body.getD .skip) (N:=7) ?_
  intro hbx hbad Q hQ
  refine cV (hb.sees (Sees.refl _)) ?_
  refine go0 9 [.f 0 0] [] ?_
  refine lV bm (es:=chEs ch) (td:=.string) (key:=.string s) (r:=none) (.bool false) (.bool false) (fun a w hJ=>MapAt.now (hm.sees (Sees.refl _)) hJ) (mfind_none hk) ?_
  refine go0 4 [] [] ?_
  refine hQ.to [.bool false] (fun H sH=>?_)
  exact congrArg Value.bool e.symm
theorem cidx_any (l:List ByteArray) (ch:List (ByteArray × Bool)) (v:Value) (b bm:Nat) (h:Vw) (hr:RS h 1 v (dZ l)) (hl:l.length≤1000000) (hb:Cells h b 0 [.map (some bm)]) (hm:MapAt h bm (chEs ch)) :
  C0 Tryz.prog 102 #[v,.func (.func 75) #[] #[.pointer (some ⟨b,0,none⟩)]] h (fun r _=>r=.int .i64 (fidx (chB ch) l)):=by
 have hc:=fun s H q1 q2=>chc_any ch s b bm H q1 q2
 obtain ⟨A,cap,rfl,-,-,-⟩:=hr.form
 rw [List.length_map] at *
 generalize hL:l.length=len at *
 refine aV Tryz.func102 (c:=Tryz.f102.body.getD .skip) (N:=19) ?_
 intro hbx hbad Q hQ
 refine go0 14 [] [] ?_
 refine jV [0,1,0,1] [.block 0,.seq [1,1]] (fun (k:Nat) X=>∃ (W1:Vw) ,X W1 [(0,.slice A len cap),(1,.func (.func 75) #[] #[Vp b]),(7,Vi (len:Int)),(8,Vi (k:Int))] [] []∧Sees h W1∧(k≤len)∧(∀ y∈l.take k,chB ch y=false)) (fun k=>len - k) (0) (fun X q=>⟨h,q _ _ _ _ ⟨rfl,by kernel_rfl⟩,Sees.refl _,Nat.zero_le _,fun y hy=>by simp at hy⟩) ?_
 rintro k a w ⟨W1,hJ,S2,hk,hn⟩; refine pV hJ ?_; clear hJ a w
 refine go0 6 [] [] ?_
 rcases (by omega:k < len∨k=len) with hlt | hke
 ·obtain ⟨f,hfk⟩:∃ f,l[k]?=some f:=⟨_,List.getElem?_eq_getElem (by omega)⟩
  have hrow:(dZ l)[k]?=some [.string f]:=by rw [List.getElem?_map,hfk]; rfl
  refine uV (t:=decide ((k:Int) < (len:Int))) (decide_eq_true (by omega)) ?_
  refine go0 15 [] [] ?_
  obtain ⟨b3,o4,rfl,-,c5⟩:=RS.row hr (hrow)
  refine cV (c5.sees S2) ?_
  refine go0 5 [.ix b3 o4 len cap k,.f 0 0,.cl 75 #[.string f,Vp b] (.bool (chB ch f))] [] ?_ (ho:=(And.intro (by first | omega | (simp; omega)) (And.intro (fun H sH=>hc f _ (hb.sees (S2.trans sH)) (hm.sees (S2.trans sH))) (trivial))))
  rcases Bool.eq_false_or_eq_true (chB ch f) with hq | hq
  ·refine uV (t:=chB ch f) (hq) ?_
   refine go0 9 [] [] ?_
   refine iV ?_
   refine go0 2 [] [] ?_
   refine hQ.to [Vi (k:Int)] (fun H sH=>?_)
   exact congrArg (Value.int .i64) (eQ _ l k f hn hfk hq).symm
  ·skip
   refine dV (t:=chB ch f) (hq) ?_
   refine go0 7 [] [(18,Vi (IntKind.i64.wrap ((k:Int) + 1)),Vi ((k:Int) + 1))] ?_ (hc:=(And.intro (jJ (by omega) (by omega)) (trivial)))
   exact tV (k + 1) (fun X q=>⟨W1,q _ _ _ _ ⟨rfl,by kernel_rfl⟩,S2,by omega,(by rw [fZ l k f hfk]; exact fun y hy=>(List.mem_append.1 hy).elim (hn y) (fun e=>by rw [List.mem_singleton.1 e]; exact hq))⟩) (by omega)
 ·skip
  have htk:l.take k=l:=by rw [hke,← hL,List.take_length]
  rw [htk] at hn
  refine dV (t:=decide ((k:Int) < (len:Int))) (decide_eq_false (by omega)) ?_
  refine go0 2 [] [] ?_
  refine iV ?_
  refine go0 8 [] [] ?_
  refine hQ.to [Vi (-1)] (fun H sH=>?_)
  exact congrArg (Value.int .i64) (fQ _ l hn).symm
theorem chAny_any (l:List ByteArray) (ch:List (ByteArray × Bool)) (v:Value) (b bm:Nat) (h:Vw) (hr:RS h 1 v (dZ l)) (hl:l.length≤1000000) (hb:Cells h b 0 [.map (some bm)]) (hm:MapAt h bm (chEs ch)) :
  C0 Tryz.prog 74 #[v,.func (.func 75) #[] #[.pointer (some ⟨b,0,none⟩)]] h (fun r _=>r=.bool (l.any (chB ch))):=by
 have hi:=fun H q1 q2 q3=>cidx_any l ch v b bm H q1 hl q2 q3
 have e:decide (0≤fidx (chB ch) l)=l.any (chB ch):=fidx_dec _ _
 generalize fidx (chB ch) l=p at *
 obtain ⟨A,cap,rfl,-,-,-⟩:=hr.form
 refine aV Tryz.func74 (c:=Tryz.f74.body.getD .skip) (N:=9) ?_
 intro hbx hbad Q hQ
 refine go0 15 [.cl 102 #[.slice A ((dZ l).length) cap,.func (.func 75) #[] #[Vp b]] (Vi p)] [] ?_ (ho:=(And.intro (fun H sH=>hi _ (hr.sees sH) (hb.sees sH) (hm.sees sH)) (trivial)))
 refine hQ.to [.bool (decide (p ≥ 0))] (fun H sH=>?_)
 exact congrArg Value.bool e
end Go.Proofs.YthckljafinhepaaGreat
namespace Go.Proofs.YthckljafinhepaaGreat
open Go.RowKit
set_option linter.unusedVariables false
structure RunK (fs:List Fd) (os:List Nat) (s:Dst):Prop where
 len:s.out.length=fs.length
 ok:∀ x∈s.out,OkV x
 slen:s.seen.length≤os.length
 new:∀ q∈s.ch,∃ j∈os,∃ g,fs[j]?=some g∧g.name=q.1
theorem stepD_at {fs:List Fd} {i:Nat} {f:Fd} (hf:fs[i]?=some f) (inp:Env) (orc:List Aw) (old:List Vl) (name:ByteArray) (s:Dst) :
  stepD fs inp orc old name s i=if hangB f name s.ch=true then ⟨s.out.set i (gX f inp orc (fcs fs s.out)),s.seen++[f.name],s.ch++[(f.name, !eqB (gX f inp orc (fcs fs s.out)) (old.getD i zV))]⟩ else s:=by unfold stepD; rw [hf]
theorem runD_at (fs:List Fd) (inp:Env) (orc:List Aw) (old:List Vl) (name:ByteArray) (os:List Nat) (k i:Nat) (hi:os[k]?=some i) (f:Fd) (hf:fs[i]?=some f) :
  rY fs inp orc old name (os.take (k + 1))=if hangB f name (rY fs inp orc old name (os.take k)).ch=true then ⟨(rY fs inp orc old name (os.take k)).out.set i (gX f inp orc (fcs fs (rY fs inp orc old name (os.take k)).out)),(rY fs inp orc old name (os.take k)).seen++[f.name],(rY fs inp orc old name (os.take k)).ch++[(f.name, !eqB (gX f inp orc (fcs fs (rY fs inp orc old name (os.take k)).out)) (old.getD i zV))]⟩ else rY fs inp orc old name (os.take k):=by
 rw [List.take_add_one,hi,Option.toList_some,runD_snoc,stepD_at hf]
theorem runD_ok {fs:List Fd} (hok:OkFs fs) {inp:Env} {orc:List Aw} {old:List Vl} (ki:∀ p∈inp,p.2.known) (ko:∀ p∈orc,OkV p.has) (hl:old.length=fs.length) (ov:∀ x∈old,OkV x) (name:ByteArray) {os:List Nat} (hlt:∀ i∈os,i < fs.length):∀ t,t≤os.length→RunK fs (os.take t) (rY fs inp orc old name (os.take t))
 | 0,_=>⟨hl,ov,Nat.le_refl _,fun q hq=>by cases hq⟩
 | t + 1,ht=>by
  have I:=runD_ok hok ki ko hl ov name hlt t (by omega)
  obtain ⟨i,hti⟩:∃ i,os[t]?=some i:=⟨_,List.getElem?_eq_getElem (by omega)⟩
  obtain ⟨f,hf⟩:∃ f,fs[i]?=some f:=⟨_,List.getElem?_eq_getElem (hlt i (List.mem_of_getElem? hti))⟩
  have e:os.take (t + 1)=os.take t++[i]:=by rw [List.take_add_one,hti]; rfl
  rw [runD_at fs inp orc old name os t i hti f hf,e]
  generalize rY fs inp orc old name (os.take t)=s at *
  split
  ·have hx:=oneV_ok (hok.each f (List.mem_of_getElem? hf)) ki ko (fcs_ok (fs:=fs) I.ok)
   refine ⟨by rw [List.length_set]; exact I.len,fun x hx'=>?_,?_,fun q hq=>?_⟩
   ·rcases List.mem_or_eq_of_mem_set hx' with q | rfl
    ·exact I.ok x q
    ·exact hx
   ·have:=I.slen
    simp only [List.length_append,List.length_cons,List.length_nil]; omega
   ·rcases List.mem_append.1 hq with c | c
    ·obtain ⟨j,hj,r⟩:=I.new q c
     exact ⟨j,List.mem_append_left _ hj,r⟩
    ·rw [List.mem_singleton.1 c]
     exact ⟨i,by simp,f,hf,rfl⟩
  ·exact ⟨I.len,I.ok,by have:=I.slen; rw [List.length_append]; omega,fun q hq=>by obtain ⟨j,hj,r⟩:=I.new q hq; exact ⟨j,List.mem_append_left _ hj,r⟩⟩
set_option maxHeartbeats 8000000 in
theorem run_any (f:Fm) (ρ:List Int) (lv:Nat→Nat) (A:Option Addr) (n c:Nat) (B:Option Addr) (m d:Nat) (inp:Env) (si so:Value) (orc:List Aw) (old:List Vl) (sv:Value) (name:ByteArray) (h:Vw) (hok:OkFm f ρ lv) (hf:IsForm h (.slice A n c) (.slice B m d) f) (hn:n=f.fields.length) (h1:1≤n)
  (hi:RS h 7 si (yK inp)) (li:inp.length≤1000) (ki:∀ p∈inp,p.2.known) (ti:uK f.fields [] inp=0) (ho:RS h 7 so (tJ orc)) (lo:orc.length≤1000) (ko:∀ p∈orc,OkV p.has)
  (hold:RS h 3 sv (lZ old)) (hol:old.length=n) (oko:∀ x∈old,OkV x) (p0:Nat) (hp:gQ f.fields name=(p0:Int))
  (hO:∀ H,IsForm H (.slice A n c) (.slice B m d) f→RS H 7 so (tJ orc)→C0 Tryz.prog 91 #[.agg #[.slice A n c,.slice B m d],so] H (fun r _=>r=.int .i64 0)) :
  C0 Tryz.prog 35 #[.agg #[.slice A n c,.slice B m d],si,so,sv,.string name] h (fun r h'=>∃ A' c' A2 n2 c2,r=.tuple #[.slice A' n c',.slice A2 n2 c2,.int .i64 0]∧RS h' 3 (.slice A' n c') (lZ (rY f.fields inp orc old name (pX ρ n)).out)∧RS h' 1 (.slice A2 n2 c2) (dZ (rY f.fields inp orc old name (pX ρ n)).seen)):=by
 have hC:=fun H q1 q2 q3=>whCheck_any f ρ lv A n c B m d inp si so orc H hok q1 hn q2 (by omega) ki ti q3 hO
 have few:=hok.fields.few
 have hFd:=fun H q=>find_yes f.fields (.slice A n c) name p0 H q (by omega) hp
 have hOr:=fun H q=>order_any f.fields (.slice A n c) H hok.fields q ρ lv hok.rank (by omega) (by omega)
 rw [← hn] at hOr
 have hod:Ordd f.fields ρ lv (pX ρ n):=by rw [hn]; exact ordL_ordd hok.rank (by omega)
 have hol2:=hod.len
 have hlt':=fun i (q:i∈pX ρ n)=>hod.lt q
 have hrun:=fun k q=>runD_ok hok.fields (inp:=inp) (orc:=orc) ki ko (hol.trans hn) oko name hlt' k q
 have hck:=fun x (hx:x∈old) H=>check_okv x H (oko x hx)
 have hcl:=fun H q=>cloneV_own (h:=H) (v:=sv) (l:=old) (n:=n) q hol (by omega) (by omega)
 have hFa:=fun ov Ao co H q1 q2 q3=>delFacts_own f.fields ov A n c Ao co H q1 hn (by omega) q2 q3
 have hon:∀ (g:Fd) (u sk:Value) (kn:Env) (H:Vw),g∈f.fields→IsArgs H g.src u→RS H 7 si (yK inp)→RS H 7 so (tJ orc)→RS H 7 sk (yK kn)→kn.length≤1000→(∀ p∈kn,OkV p.2)→_:=fun g u sk kn H q0 q1 q2 q3 q4 q5 q6=>one_any f.fields g u inp si orc so kn sk H (hok.fields.each g q0) q1 q2 q3 q4 li lo q5 q6
 obtain ⟨A1,c1,rfl,-,-,-⟩:=hi.form
 obtain ⟨A2,c2,rfl,-,-,-⟩:=ho.form
 obtain ⟨A5,c5,rfl,-,-,-⟩:=hold.form
 rw [List.length_map] at *
 rw [List.length_map] at *
 simp only [List.length_map,hol] at hcl hold ⊢
 obtain ⟨vs,A3,c3,e3,-,-,hr3,hs3,hl3,hsl⟩:=dQ hf.fields
 simp only [Value.slice.injEq] at e3
 obtain ⟨rfl,-,rfl⟩:=e3
 rw [← hn] at hr3 hl3
 have hstep:=fun k i (hi:(pX ρ n)[k]?=some i) (g:Fd) (hg:f.fields[i]?=some g)=>runD_at f.fields inp orc old name (pX ρ n) k i hi g hg
 have hw0:rY f.fields inp orc old name []=⟨old,[],[]⟩:=rfl
 rw [← hn] at hlt' hol2
 have hod1:=fun t u i=>hod.one (t:=t) (u:=u) (i:=i)
 clear hod
 generalize pX ρ n=os at *
 generalize rY f.fields inp orc old name=rD at *
 generalize hni:inp.length=ni at *
 generalize hno:orc.length=no at *
 refine aV Tryz.func35 (c:=Tryz.f35.body.getD .skip) (N:=137) ?_
 intro hbx hbad Q hQ
 refine go1 61 [.own,.b 0 0,.cl 61 #[.agg #[.slice A n c,.slice B m d],.slice A1 ni c1,.slice A2 no c2] (Vi 0),.b 0 0,.cl 70 #[.slice A n c,.string name] (.tuple #[Vi (p0:Int),Vi 0]),.b 0 0] [] ?_ (ho:=(And.intro (fun H sH=>hC _ (hf.sees sH) (hi.sees sH) (ho.sees sH)) (And.intro (fun H sH=>hFd _ ((hf.sees sH)).fields) (trivial))))
 intro b1
 refine dV (t:=(n:Int) != (n:Int)) ((by simp)) ?_
 refine go0 11 [] [] ?_
 refine jV [0,1,0,1,1,1,1] [.block 0,.seq [1,1,1,1,1]] (fun (k:Nat) X=>∃ (W2:Vw) ,X W2 [(1,.slice A1 ni c1),(2,.slice A2 no c2),(3,.slice A5 n c5),(4,.string name),(5,Vp b1),(53,.slice A5 n c5),(54,Vi (n:Int)),(55,Vi (k:Int))] [.box b1 [.slice A n c,.slice B m d]] []∧Sees h W2∧(k≤n)) (fun k=>n - k) (0) (fun X q=>⟨h,q _ _ _ _ ⟨rfl,by kernel_rfl⟩,Sees.refl _,Nat.zero_le _⟩) ?_
 rintro k a w ⟨W2,hJ,S3,hk⟩; refine pV hJ ?_; clear hJ a w
 refine go0 6 [] [] ?_
 rcases (by omega:k < n∨k=n) with hlt | hke
 ·obtain ⟨x,hx⟩:∃ x,old[k]?=some x:=⟨_,List.getElem?_eq_getElem (by omega)⟩
  have hrow:=mZ hx
  have hckx:=fun H=>hck x (List.mem_of_getElem? hx) H
  refine uV (t:=decide ((k:Int) < (n:Int))) (decide_eq_true (by omega)) ?_
  refine go0 6 [] [] ?_
  obtain ⟨b4,o5,rfl,-,c6⟩:=RS.row hold (hrow)
  refine cV (c6.sees S3) ?_
  refine go1 27 [.ix b4 o5 n c5 k,.f 0 0,.own,.b 0 0,.b 0 0,.cl 71 #[.agg #[Vi x.k,Vi x.n,.string x.s]] (Vi 0)] [(64,Vi (IntKind.i64.wrap ((k:Int) + 1)),Vi ((k:Int) + 1))] ?_ (ho:=(And.intro (by first | omega | (simp; omega)) (And.intro (fun H sH=>hckx _) (trivial)))) (hc:=(And.intro (jJ (by omega) (by omega)) (trivial)))
  intro b7
  exact tV (k + 1) (fun X q=>⟨W2,q _ _ _ _ ⟨rfl,by kernel_rfl⟩,S3,by omega⟩) (by omega)
 ·skip
  refine dV (t:=decide ((k:Int) < (n:Int))) (decide_eq_false (by omega)) ?_
  refine go0 2 [] [] ?_
  refine iV ?_
  refine go0 6 [.b 0 0] [] ?_
  refine wQ (fun H sH=>hOr _ ((hf.sees (S3.trans sH))).fields) ?_; rintro _ W8 S9 ⟨A4,c4,rfl,hro⟩
  refine go0 10 [] [] ?_
  refine g_callown (e:=38) (kk:=3) (fun a w hJ=>hcl _ (hold.sees (S3.trans (S9.trans hJ.j.sees)))) ?_; rintro _ _ _ W10 S11 ⟨rfl,⟨bo,co,rfl⟩,rfl⟩
  refine go0 10 [] [] ?_
  refine mV ?_; intro b12
  refine go1 13 [.own,.b 0 0] [] ?_
  intro b13
  refine oV 9 1 ?_
  refine jV [0,1,0,1,1,1,1,1,1,1,1,1] [.block 2,.seq [1,1,1,1,1,1,1,1,1,1]] (fun (k:Nat) X=>∃ (W14:Vw) (v:Value) (ov:List Vl) (sn:List ByteArray) (ch:List (ByteArray × Bool)),X W14 [(1,.slice A1 ni c1),(2,.slice A2 no c2),(3,.slice A5 n c5),(4,.string name),(5,Vp b1),(21,Vs bo n co),(23,Vp b13),(74,.slice A4 n c4),(75,Vi (n:Int)),(76,Vi (k:Int)),(22,v)] [.row v 9 1 (dZ sn),.box b13 [.map (some b12)],.map b12 (chEs ch),.row (Vs bo n co) 38 3 (lZ ov),.box b1 [.slice A n c,.slice B m d]] []∧Sees W10 W14∧(k≤n)∧(rD (os.take k)=⟨ov,sn,ch⟩)) (fun k=>n - k) (0) (fun X q=>⟨W10,(Vz),old,[],[],q _ _ _ _ ⟨rfl,by kernel_rfl⟩,Sees.refl _,Nat.zero_le _,hw0⟩) ?_
  rintro k a w ⟨W14,v,ov,sn,ch,hJ,S15,hk,hv⟩; refine pV hJ ?_; clear hJ a w
  refine go0 6 [] [] ?_
  rcases (by omega:k < n∨k=n) with hlt | hke
  ·obtain ⟨i,hoi⟩:∃ i,os[k]?=some i:=⟨_,List.getElem?_eq_getElem (by omega)⟩
   have hil:=hlt' i (List.mem_of_getElem? hoi)
   obtain ⟨g,hg⟩:∃ g,f.fields[i]?=some g:=⟨_,List.getElem?_eq_getElem (by omega)⟩
   obtain ⟨u,hu⟩:∃ u,vs[i]?=some u:=⟨_,List.getElem?_eq_getElem (by omega)⟩
   have hrow:=bQ hg hu
   have hga:∀ H,AllSrc H f.fields vs→IsArgs H g.src u:=fun H q=>AllArgs.get q (x:=g.src) (by rw [List.getElem?_map,hg]; rfl) hu
   obtain ⟨Au,nu,cu,rfl⟩:=(hga _ hs3).slice
   have hro1:(wW os)[k]?=some [.int .i64 (i:Int)]:=by rw [List.getElem?_map,hoi]; rfl
   have hR:=hrun k (by omega)
   have hst:=hstep k i hoi g hg
   have hof:=hok.fields.each g (List.mem_of_getElem? hg)
   have hnew:∀ q∈ch,q.1≠g.name:=fun q hq e=>by
    rw [hv] at hR
    obtain ⟨j,hj,g',hj2,hj3⟩:=hR.new q hq
    have e1:=iQ hok.fields.nodup hj2
    rw [hj3,e,iQ hok.fields.nodup hg] at e1
    have e2:i=j:=by omega
    subst e2
    obtain ⟨t,ht,ht2⟩:=take_idx hj
    have:=hod1 _ _ _ hoi ht2
    omega
   rw [hv] at hR hst
   have hl1:=hR.len
   have hl2:=hR.slen
   have hl3':=hR.ok
   simp only at hl1 hl2 hl3' hst
   rw [List.length_take] at hl2
   have hl1n:ov.length=n:=hl1.trans hn.symm
   obtain ⟨x0,hx0⟩:∃ x,ov[i]?=some x:=⟨_,List.getElem?_eq_getElem (by omega)⟩
   obtain ⟨y0,hy0⟩:∃ x,old[i]?=some x:=⟨_,List.getElem?_eq_getElem (by omega)⟩
   have hx1:=mZ hx0
   have hy1:=mZ hy0
   have hge:old.getD i zV=y0:=by rw [List.getD_eq_getElem?_getD,hy0]; rfl
   have hon':=fun sk H q1 q2 q3 q4=>hon g (.slice Au nu cu) sk (fcs f.fields ov) H (List.mem_of_getElem? hg) q1 q2 q3 q4 (by rw [fcs_len (by omega)]; omega) (fcs_ok hl3')
   have hnl:=Nat.le_trans (namesE_len g.src) (refs_le g.src)
   have hFa':=fun H q1 q2=>hFa ov (some ⟨bo,0,none⟩) co H q1 q2 hl1n
   rw [hge] at hst
   generalize gX g inp orc (fcs f.fields ov)=xv at *
   have hx2:((lZ ov).set i [.int .i64 xv.k,.int .i64 xv.n,.string xv.s])[i]?=some [.int .i64 xv.k,.int .i64 xv.n,.string xv.s]:=List.getElem?_set_self (by rw [List.length_map]; omega)
   obtain ⟨hb,hhb⟩:∃ b,hangB g name ch=b:=⟨_,rfl⟩
   refine uV (t:=decide ((k:Int) < (n:Int))) (decide_eq_true (by omega)) ?_
   refine go0 6 [] [] ?_
   obtain ⟨b16,o17,rfl,-,c18⟩:=RS.row hro (hro1)
   refine cV (c18.sees (S11.trans S15)) ?_
   refine go0 10 [.ix b16 o17 n c4 k,.f 0 0,.b 4 0] [] ?_ (ho:=(And.intro (by first | omega | (simp; omega)) (trivial)))
   obtain ⟨b19,o20,rfl,-,c21⟩:=RS.row hr3 (hrow)
   refine cV (c21.sees (S3.trans (S9.trans (S11.trans S15)))) ?_
   refine go1 23 [.ix b19 o20 n c i,.f 0 0,.own,.b 0 0,.b 0 0,.b 0 1] [] ?_ (ho:=(And.intro (by first | omega | (simp; omega)) (trivial)))
   intro b22
   refine g_cut [1,0,1,1,1,0,0,1,1,0,0,1,0,1,1,1,1,1,1,1,1,1] [.seq [1,1,1,1,0,0,1,1,0,0,1,0,1,1,1,1,1,1,1,1,1],.block 3,.seq [1,1,1,0,0,1,0,1,1,1,1,1,1,1,1,1]] (fun X=>∃ (W23:Vw) ,X W23 [(1,.slice A1 ni c1),(2,.slice A2 no c2),(3,.slice A5 n c5),(4,.string name),(5,Vp b1),(21,Vs bo n co),(23,Vp b13),(74,.slice (some ⟨b16,o17,none⟩) n c4),(75,Vi (n:Int)),(76,Vi (k:Int)),(22,v),(25,Vi (i:Int)),(26,Vp b22),(27,.bool hb)] [.box b22 [.string g.name,Vi g.kind,Vi g.ty,Vi g.src.op,Vi g.src.k,Vi g.src.n,.string g.src.s,.string g.src.nm,.slice Au nu cu],.row v 9 1 (dZ sn),.box b13 [.map (some b12)],.map b12 (chEs ch),.row (Vs bo n co) 38 3 (lZ ov),.box b1 [.slice (some ⟨b19,o20,none⟩) n c,.slice B m d]] [(b19,o20 + i * 9,[.string g.name,Vi g.kind,Vi g.ty,Vi g.src.op,Vi g.src.k,Vi g.src.n,.string g.src.s,.string g.src.nm,.slice Au nu cu]),(b16,o17 + k * 1,[Vi (i:Int)])]∧Sees W14 W23) [(1,.slice A1 ni c1),(2,.slice A2 no c2),(3,.slice A5 n c5),(4,.string name),(5,Vp b1),(21,Vs bo n co),(23,Vp b13),(74,.slice (some ⟨b16,o17,none⟩) n c4),(75,Vi (n:Int)),(76,Vi (k:Int)),(22,v),(25,Vi (i:Int)),(26,Vp b22),(27,.bool (g.name.toList == name.toList)),(91,.bool (g.kind != 1))] [.box b22 [.string g.name,Vi g.kind,Vi g.ty,Vi g.src.op,Vi g.src.k,Vi g.src.n,.string g.src.s,.string g.src.nm,.slice Au nu cu],.row v 9 1 (dZ sn),.box b13 [.map (some b12)],.map b12 (chEs ch),.row (Vs bo n co) 38 3 (lZ ov),.box b1 [.slice (some ⟨b19,o20,none⟩) n c,.slice B m d]] [(b19,o20 + i * 9,[.string g.name,Vi g.kind,Vi g.ty,Vi g.src.op,Vi g.src.k,Vi g.src.n,.string g.src.s,.string g.src.nm,.slice Au nu cu]),(b16,o17 + k * 1,[Vi (i:Int)])] ?_ ?_
   ·skip
    by_cases g1:g.kind=1
    ·have e:hb=(g.name.toList == name.toList):=by rw [← hhb]; unfold hangB; simp [g1]
     subst e
     refine dV (t:=g.kind != 1) ((by simpa using g1)) ?_
     refine go0 1 [] [] ?_
     exact g_meet (fun X q=>⟨W14,q _ _ _ _ ⟨rfl,by kernel_rfl⟩,(Sees.refl _)⟩)
    ·skip
     obtain ⟨w1,w2,w3⟩:=hof.wf g1
     have hnm:=fun H q=>nmOf_any g.src (.slice Au nu cu) H q w1 (by omega) w3
     have hch:=fun An cn H q1 q2 q3=>chAny_any (uW g.src) ch (.slice An (uW g.src).length cn) b13 b12 H q1 (by omega) q2 q3
     have e:hb=(g.name.toList == name.toList || (uW g.src).any (chB ch)):=by rw [← hhb]; unfold hangB; rw [show (g.kind != 1)=true from bne_iff_ne.2 g1,Bool.true_and]
     generalize uW g.src=nm at *
     refine uV (t:=g.kind != 1) ((by simpa using g1)) ?_
     refine go0 4 [.b 0 3] [] ?_
     refine wQ (fun H sH=>hnm _ (hga _ (hs3.sees (S3.trans (S9.trans (S11.trans (S15.trans sH))))))) ?_; rintro _ W25 S26 ⟨An,cn,rfl,hnr⟩
     refine go0 10 [] [] ?_
     by_cases q:(g.name.toList == name.toList)=true
     ·rw [q,Bool.true_or] at e
      subst e
      refine sV 99 (v:=.bool (g.name.toList == name.toList)) (v':=.bool true) (congrArg Value.bool q) ?_
      refine go0 6 [] [] ?_
      exact g_meet (fun X q=>⟨W25,q _ _ _ _ ⟨rfl,by kernel_rfl⟩,S26⟩)
     ·skip
      have q:=Bool.eq_false_iff.2 q
      rw [q,Bool.false_or] at e
      subst e
      refine sV 99 (v:=.bool (g.name.toList == name.toList)) (v':=.bool false) (congrArg Value.bool q) ?_
      refine go0 2 [] [] ?_
      refine yQ (fun a w hJ=>hch _ _ _ (hnr.sees hJ.j.seesQ) (hJ.j.boxQ (b:=b13) (cs:=[.map (some b12)]) 2 (by kernel_rfl)) (hJ.j.mapQ (b:=b12) (es:=chEs ch) 3 (by kernel_rfl))) ?_; intro W27 S28
      refine go0 3 [] [] ?_
      exact g_meet (fun X q=>⟨W27,q _ _ _ _ ⟨rfl,by kernel_rfl⟩,(S26.trans S28)⟩)
   ·rintro a w ⟨W23,hJ,S24⟩; refine pV hJ ?_; clear hJ a w
    refine go0 8 [] [] ?_
    by_cases hbt:hb=true
    ·rw [if_pos (hhb.trans hbt)] at hst
     refine dV (t := !hb) ((by rw [hbt]; rfl)) ?_
     refine aW 8 [.b 0 0,.fix] [] ?_
     intro b29 W30 S31
     refine goa0 5 [.ap 1 0 (dZ sn) [[.string g.name]]] [] ?_ (ho:=(And.intro (by constructor <;> (simp; omega)) (trivial)))
     intro v110 W32 S33
     refine rV 12 0 [.pu,.pu,.ld 0 0,.pu,.pu,.pu,.ld 5 0,.pu,.f (fun gh=>.slice (sA (gh 8)) (sN (gh 8)) (sC (gh 8))) (fun gh hh=>RS hh 7 (.slice (sA (gh 8)) (sN (gh 8)) (sC (gh 8))) (yK (fcs f.fields ov))),.v (fun gh=>.agg #[Vi xv.k,Vi xv.n,.string xv.s]),.v (fun gh=>.pointer (some ⟨bo,0 + i * 3,none⟩)),.s 4 (fun gh=>.row (Vs bo n co) 38 3 ((lZ ov).set i [Vi xv.k,Vi xv.n,.string xv.s]))] [(8,false)] (And.intro (fun _ _ _ s c=>c.sees s) (trivial)) ?_ ?_
     ·intro R hT hA hmono
      refine And.intro (r_callqf hT hA hmono ⟨fun _ _=>by kernel_rfl,fun _ _=>by kernel_rfl,fun _ _=>by kernel_rfl⟩ 119 (fun u=>.slice (sA u) (sN u) (sC u)) [6,7] 8 (by kernel_rfl) (by kernel_rfl) (fun _=>by kernel_rfl) 4 (GN R 4) (by kernel_rfl) (by kernel_rfl) (fun gh=>Vs bo n co) 38 3 (lZ ov) (fun _=>by kernel_rfl) (te:=54) (k1:=7) (yK (fcs f.fields ov)) 0 (by kernel_rfl) (by kernel_rfl) 76 (fun gh=>#[.slice (some ⟨b19,o20,none⟩) n c,Vs bo n co]) (fun _ _=>by kernel_rfl) (fun gh H bH sH fH rQ=>hFa' _ ((hf.sees (S3.trans (S9.trans (S11.trans (S15.trans (S24.trans (S31.trans (S33.trans sH))))))))).fields rQ)) ?_
      refine And.intro (t_v hT hA hmono (k:=20) (args:=(fun gh=>#[.agg #[.string g.name,Vi g.kind,Vi g.ty,Vi g.src.op,Vi g.src.k,Vi g.src.n,.string g.src.s,.string g.src.nm,.slice Au nu cu],.slice A1 ni c1,.slice A2 no c2,.slice (sA (gh 8)) (sN (gh 8)) (sC (gh 8))])) (f:=fun gh=>.agg #[Vi xv.k,Vi xv.n,.string xv.s]) (fun gh H sH fH lent=>hon' _ _ (hga _ (hs3.sees (S3.trans (S9.trans (S11.trans (S15.trans (S24.trans (S31.trans (S33.trans sH))))))))) (hi.sees (S3.trans (S9.trans (S11.trans (S15.trans (S24.trans (S31.trans (S33.trans sH)))))))) (ho.sees (S3.trans (S9.trans (S11.trans (S15.trans (S24.trans (S31.trans (S33.trans sH)))))))) (fH 0 _ rfl (by kernel_rfl)))) ?_
      refine And.intro (eZ hT hA bo 0 n co i (fun gh=>.pointer (some ⟨bo,0 + i * 3,none⟩)) (by first | omega | (simp; omega))) ?_
      refine And.intro (r_rowset hT hA [0,1,2,3,4,5,6,7,8,9,10] (by kernel_rfl) (by kernel_rfl) (fun _=>by kernel_rfl) 4 (GN R 4) (by kernel_rfl) (by kernel_rfl) (by kernel_rfl) i 0 (g:=bo) (m:=n) (cap:=co) (kk:=3) (te:=38) (l:=lZ ov) (r:=[Vi x0.k,Vi x0.n,.string x0.s]) (fun gh=>.agg #[Vi xv.k,Vi xv.n,.string xv.s]) (fun _=>by kernel_rfl) (fun _=>by kernel_rfl) 38 (.tmp 121) (.tmp 120) (by kernel_rfl) (fun _=>by kernel_rfl) (fun _=>by kernel_rfl) (hx1) (fun _=>by kernel_rfl)) ?_
      trivial
     rintro u119 W34 S35 ⟨f119,-⟩
     replace f119:RS W34 7 (.slice (sA u119) (sN u119) (sC u119)) (yK (fcs f.fields ov)):=f119
     refine go0 1 [] [] ?_
     obtain ⟨b36,o37,rfl,-,c38⟩:=RS.row hold (hy1)
     refine cV (c38.sees (S3.trans (S9.trans (S11.trans (S15.trans (S24.trans (S31.trans (S33.trans S35)))))))) ?_
     refine rV 13 0 [.ld 2 0,.pu,.ld 0 0,.pu,.pu,.v (fun gh=>.pointer (some ⟨bo,0 + i * 3,none⟩)),.v (fun gh=>.agg #[Vi xv.k,Vi xv.n,.string xv.s]),.pu,.pu,.v (fun gh=>.pointer (some ⟨b36,o37 + i * 3,none⟩)),.lf 0 0,.v (fun gh=>.bool (!(eqB xv y0))),.s 3 (fun gh=>.map b12 ((chEs ch)++[(.string g.name,.bool (!(eqB xv y0)))]))] [] (trivial) ?_ ?_
     ·intro R hT hA hmono
      refine And.intro (eZ hT hA bo 0 n co i (fun gh=>.pointer (some ⟨bo,0 + i * 3,none⟩)) (by first | omega | (simp; omega))) ?_
      refine And.intro (r_rowget hT hA 128 (fun gh=>.agg #[Vi xv.k,Vi xv.n,.string xv.s]) [5] 6 (by kernel_rfl) (by kernel_rfl) (by kernel_rfl) (fun _=>by kernel_rfl) 4 (GN R 4) (by kernel_rfl) (by kernel_rfl) bo n co 3 38 ((lZ ov).set i [Vi xv.k,Vi xv.n,.string xv.s]) (fun _=>by kernel_rfl) i 0 (r:=[Vi xv.k,Vi xv.n,.string xv.s]) (hx2) 38 (.tmp 127) (by kernel_rfl) (fun _=>by kernel_rfl) (fun _=>by kernel_rfl)) ?_
      refine And.intro (eZ hT hA b36 o37 n c5 i (fun gh=>.pointer (some ⟨b36,o37 + i * 3,none⟩)) (by first | omega | (simp; omega))) ?_
      refine And.intro (t_p hT hA (fun gh=>.bool (!(eqB xv y0))) (fun gh w=>run_neqop (x:=(.tmp 128)) (y:=(.tmp 132)) (v:=xv) (w:=y0) (by kernel_rfl) (by kernel_rfl) (by kernel_rfl) (rfl))) ?_
      refine And.intro (r_mapset hT hA [0,1,2,3,4,5,6,7,8,9,10,11] (by kernel_rfl) (by kernel_rfl) (fun _=>by kernel_rfl) 3 (GN R 3) (by kernel_rfl) (by kernel_rfl) (by kernel_rfl) (b:=b12) (es:=chEs ch) (t:=120) (kt:=9) (et:=4) (td:=.string) (mo:=(.tmp 122)) (ko:=(.tmp 124)) (vo:=(.tmp 133)) (fun gh=>.string g.name) (fun gh=>.bool (!(eqB xv y0))) (fun _=>by kernel_rfl) (fun _=>by kernel_rfl) (by kernel_rfl) (fun _=>by kernel_rfl) (fun _=>by kernel_rfl) (fun _=>by kernel_rfl) Tryz.underlying120 Tryz.underlying9 (fun _=>by kernel_rfl) (fun _=>ch_new hnew)) ?_
      trivial
     rintro W39 S40 -
     refine go0 6 [] [(134,Vi (IntKind.i64.wrap ((k:Int) + 1)),Vi ((k:Int) + 1))] ?_ (hc:=(And.intro (jJ (by omega) (by omega)) (trivial)))
     refine gV [(1,.slice A1 ni c1),(2,.slice A2 no c2),(3,.slice (some ⟨b36,o37,none⟩) n c5),(4,.string name),(5,Vp b1),(21,Vs bo n co),(23,Vp b13),(74,.slice (some ⟨b16,o17,none⟩) n c4),(75,Vi (n:Int)),(22,.slice (sA v110) (sN v110) (sC v110)),(76,Vi ((k:Int) + 1))] [.row (.slice (sA v110) (sN v110) (sC v110)) 9 1 ((dZ sn)++[[.string g.name]]),.box b13 [.map (some b12)],.map b12 ((chEs ch)++[(.string g.name,.bool (!(eqB xv y0)))]),.row (Vs bo n co) 38 3 ((lZ ov).set i [Vi xv.k,Vi xv.n,.string xv.s]),.box b1 [.slice (some ⟨b19,o20,none⟩) n c,.slice B m d]] [] ?_
     exact tV (k + 1) (fun X q=>⟨W39,.slice (sA v110) (sN v110) (sC v110),ov.set i xv,sn++[g.name],ch++[(g.name, !eqB xv y0)],q _ _ _ _ (xY (by rw [chEs_snoc,← vlRows_set]; simp [dZ])),(S15.trans (S24.trans (S31.trans (S33.trans (S35.trans S40))))),by omega,hst⟩) (by omega)
    ·skip
     rw [if_neg fun q=>hbt (hhb.symm.trans q)] at hst
     refine uV (t := !hb) ((by rw [Bool.eq_false_iff.2 hbt]; rfl)) ?_
     refine go0 8 [] [(134,Vi (IntKind.i64.wrap ((k:Int) + 1)),Vi ((k:Int) + 1))] ?_ (hc:=(And.intro (jJ (by omega) (by omega)) (trivial)))
     exact tV (k + 1) (fun X q=>⟨W23,v,ov,sn,ch,q _ _ _ _ ⟨rfl,by kernel_rfl⟩,(S15.trans S24),by omega,hst⟩) (by omega)
  ·skip
   have hta:os.take k=os:=by rw [hke,← hol2,List.take_length]
   rw [hta] at hv
   refine dV (t:=decide ((k:Int) < (n:Int))) (decide_eq_false (by omega)) ?_
   refine go0 2 [] [] ?_
   refine iV ?_
   refine go0 12 [] [] ?_
   refine eV 0 (v:=v) (e:=9) (kk:=1) (l:=dZ sn) ?_; intro As cs hE_v hc_v hm_v
   rw [show (dZ sn).length=sn.length from by first | omega | (simp; done) | (simp; omega)] at hE_v hc_v
   rw [hE_v]
   refine gV [(10,Vs bo n co),(11,.slice As sn.length cs),(12,Vi 0)] [.row (.slice As sn.length cs) 9 1 (dZ sn),.box b13 [.map (some b12)],.map b12 (chEs ch),.row (Vs bo n co) 38 3 (lZ ov),.box b1 [.slice A n c,.slice B m d]] [] ?_
   refine hQ.toJ [Vs bo n co,.slice As sn.length cs,Vi 0] [] (fun a w hJ=>?_)
   have fo:=hJ.j.rowOut0 (v:=Vs bo n co) (e:=38) (k:=3) (l:=lZ ov) 3 (by kernel_rfl) rfl
   have fs:=hJ.j.rowOut0 (v:=.slice As sn.length cs) (e:=9) (k:=1) (l:=dZ sn) 0 (by kernel_rfl) rfl
   exact ⟨_,_,_,_,_,rfl,by rw [hv]; exact fo,by rw [hv]; exact fs⟩
end Go.Proofs.YthckljafinhepaaGreat
namespace Go.Proofs.YthckljafinhepaaGreat
open Go.RowKit
set_option linter.unusedVariables false
section
variable {P:Program} {C:Fx} {E:List (Nat × Value)} {B:List Ent} {F:List Fac} {h:Vw} {a:Act} {w w':World} {Q:Exit→Act→World→Prop} {c0:Code} {p:List Nat} {n:Nat} {ks:List Kt}
theorem J.calledE (hJ:J C E B h a w) {i b:Nat} {x x':Ent} (hx:x.blocks=[b]) (hx':x'.blocks=[b]) (hB:B[i]?=some x) (hl:Low [b] w w') (hok:x'.ok C.w0.heap.size w') :
  J C E (B.set i x') ⟨w',blk B++C.bad0⟩ a w'∧Sees h ⟨w',blk B++C.bad0⟩:=by
 have hbm:b∈blk B:=List.mem_flatMap.2 ⟨_,List.mem_of_getElem? hB,by simp [hx]⟩
 have hset:blk (B.set i x')=blk B:=by
  clear hJ hl hok hbm
  induction B generalizing i with
  | nil=>simp
  | cons y B ih =>
   cases i with
   | zero=>simp at hB; subst hB; simp [blk,hx,hx']
   | succ i =>
    have:=ih (i:=i) (by simpa using hB)
    simp only [blk,List.set_cons_succ,List.flatMap_cons] at this ⊢
    rw [this]
 have hne:∀ (j:Nat) (e:Ent),B[j]?=some e→j≠i→b ∉ e.blocks:=by
  have hnd:=hJ.nodup
  clear hJ hl hok hbm hset
  intro j e hj hji hm
  induction B generalizing i j with
  | nil=>simp at hj
  | cons y B ih =>
   simp only [blk,List.flatMap_cons,List.nodup_append] at hnd
   obtain ⟨n1,n2,n3⟩:=hnd
   cases i with
   | zero =>
    cases j with
    | zero=>exact hji rfl
    | succ j =>
     simp at hB hj
     subst hB
     exact n3 b (by simp [hx]) b (List.mem_flatMap.2 ⟨e,List.mem_of_getElem? hj,hm⟩) rfl
   | succ i =>
    cases j with
    | zero =>
     simp at hB hj
     subst hj
     exact n3 b hm b (List.mem_flatMap.2 ⟨_,List.mem_of_getElem? hB,by simp [hx]⟩) rfl
    | succ j=>exact ih (i:=i) (j:=j) (by simpa using hB) n2 (by simpa using hj) (by omega)
 have hbb:b < h.w.heap.size→b∈h.bad:=fun hlt=>hJ.sees.bad b (List.mem_append_left _ hbm) hlt
 have hsee:Sees h ⟨w',blk B++C.bad0⟩:=⟨Nat.le_trans hJ.sees.size hl.size,fun k hk hn=>(hl.block k (Nat.lt_of_lt_of_le hk hJ.sees.size) (by
  simp only [List.mem_singleton]
  rintro rfl
  exact hn (hbb hk))).trans (hJ.sees.block k hk hn),hJ.sees.bad⟩
 refine ⟨⟨hJ.fits,hJ.size,hJ.defers,⟨hl.os.trans hJ.low.os,hl.tape.trans hJ.low.tape,hl.output.trans hJ.low.output,Nat.le_trans hJ.low.size hl.size,fun k hk hm=>?_⟩,by rw [hset]; exact Sees.refl _,fun e he=>?_,by rw [hset]; exact hJ.nodup,by rw [hset]; exact hJ.own,hJ.badlt⟩,hsee⟩
 ·refine (hl.block k (Nat.lt_of_lt_of_le hk hJ.low.size) (by
   simp only [List.mem_singleton]
   rintro rfl
   rcases hJ.own _ hbm with g | g
   ·omega
   ·exact hm g)).trans (hJ.low.block k hk hm)
 ·obtain ⟨j,hj⟩:=List.getElem?_of_mem he
  rw [List.getElem?_set] at hj
  split at hj
  ·split at hj
   ·simp only [Option.some.injEq] at hj; subst hj; exact hok
   ·cases hj
  ·rename_i hji
   have hB':e∈B:=List.mem_of_getElem? hj
   exact ok_block (hJ.ents e hB') hl.size (fun k hk=>hl.block k (blk_lt hJ k (List.mem_flatMap.2 ⟨e,hB',hk⟩)) (by
    simp only [List.mem_singleton]
    rintro rfl
    exact hne j e hj (fun q=>hji q.symm) hk))
theorem row_take {base g m cap kk:Nat} {e:TypeId} {l:List (List Value)} (h:Ent.ok base w (.row (.slice (some ⟨g,0,none⟩) m cap) e kk l)) {i:Nat} (hi:i≤m):Ent.ok base w (.row (.slice (some ⟨g,0,none⟩) i cap) e kk (l.take i)):=by
 obtain ⟨A,c,e',-⟩:=mY h
 simp only [Value.slice.injEq] at e'
 obtain ⟨-,rfl,-⟩:=e'
 obtain ⟨⟨h0,h1⟩,h2⟩:=h
 have h2':∀ r∈l.take i,r.length=kk:=fun r hr=>h2 r (List.mem_of_mem_take hr)
 have hl:(l.take i).length=i:=by rw [List.length_take]; omega
 have hfl:=kQ _ h2'
 rw [hl] at hfl
 rcases h1 with ⟨q,-⟩ | ⟨g',cap',cur,q,hb,hg,hn,hm,hs,ht⟩
 ·cases q
 ·simp only [Value.slice.injEq,Option.some.injEq,Addr.mk.injEq] at q
  obtain ⟨⟨rfl,-⟩,-,rfl⟩:=q
  refine ⟨⟨by rw [hl]; exact hfl,.inr ⟨g,cap,cur,by rw [hl],hb,hg,by rw [hl]; omega,hm,hs,?_⟩⟩,h2'⟩
  rw [hl]
  have hle:i * kk≤l.length * kk:=Nat.mul_le_mul_right _ hi
  have e1:cur.toList.take (i * kk)=(cur.toList.take (l.length * kk)).take (i * kk):=by rw [List.take_take,Nat.min_eq_left hle]
  rw [e1,ht]
  have e2:l.flatten=(l.take i).flatten++(l.drop i).flatten:=by rw [← List.flatten_append,List.take_append_drop]
  rw [e2,List.take_append_of_le_length (by omega),← hfl,List.take_length]
theorem x_clear1 (hK:K C E B F h a w) (i q:Nat) {g m cap kk c:Nat} {e te t:TypeId} {l:List (List Value)} {r zs:List Value} {y:Operand} {z:Value} (hk:goodOp0 E (nX c0 p) n=true) (hop:(kX (nX c0 p) n).op=.call { callee:=.builtin .clear,args:=#[y],argTypes:=#[t] }) (hB:B[i]?=some (.row (.slice (some ⟨g,0,none⟩) m cap) e kk l))
  (hy:evE E y=some (.slice (some ⟨g,0 + q * kk,none⟩) 1 c)) (hr:l[q]?=some r) (ht:P.underlying t=some (.slice te)) (hz:∀ w,(zeroValue te).run P w=.ok z w) (hzc:(Builtin.zeroCells z.cells 1).toList=zs) (h1:∀ u∈zs,u.oneCell'=true) (hzl:zs.length=kk)
  (k:∀ a w,K C E (B.set i (.row (.slice (some ⟨g,0,none⟩) m cap) e kk (l.set q zs))) F h a w→Goal P c0 Q (.ops p (n + 1)) ks a w):Goal P c0 Q (.ops p n) ks a w:=by
 unfold goodOp0 at hk
 split at hk
 ·rename_i o rest hl
  simp only [Bool.and_eq_true] at hk
  obtain ⟨⟨k1,k2⟩,k3⟩:=hk
  have hg:tQ E (nX c0 p) o=some true:=by
   split at k1
   ·assumption
   ·cases k1
  have hrr:=kK hl
  rw [drop_opAt hl] at hop
  obtain ⟨h1',h2⟩:Ent.ok _ w (.row (.slice (some ⟨g,0,none⟩) m cap) e kk l):=hK.j.ents _ (List.mem_of_getElem? hB)
  have hm:m=l.length:=by
   obtain ⟨A,c,e',-⟩:=mY (hK.j.ents _ (List.mem_of_getElem? hB))
   simp only [Value.slice.injEq] at e'
   exact e'.2.1
  subst hm
  have hbx:=row_box h1'
  have hfl:=kQ l h2
  have hlt:=(List.getElem?_eq_some_iff.1 hr).1
  have hle:(q + 1) * kk≤l.length * kk:=Nat.mul_le_mul_right _ hlt
  rw [Nat.add_mul] at hle
  have hrl:=h2 r (List.mem_of_getElem? hr)
  have hst:=run_clear_row (P:=P) (w:=w) t te o.type z zs ht hz hzc h1 g (0 + q * kk) c (fun j hj=>by rw [hbx.cells (0 + q * kk + j) _ (List.getElem?_eq_getElem (by omega))]; rfl) (fun j hj=>hbx.free _)
  obtain ⟨h3,h4⟩:=nY zs (0 + q * kk) l.flatten w h1' (by omega)
  have hp:yX r 0 zs=zs:=by
   unfold yX
   rw [List.take_zero,List.nil_append,Nat.zero_add,List.drop_eq_nil_of_le (by omega),List.append_nil]
  have hfp:=flat_put2 zs 0 l q r h2 hr (by omega)
  rw [hp,Nat.add_zero] at hfp
  rw [show yX l.flatten (0 + q * kk) zs=(l.set q zs).flatten by rw [Nat.zero_add]; exact hfp] at h3
  refine mJ hl (uQ hK.j.fits hg) (wpList_plain rfl fun KK hKK=>?_)
  unfold Oper.wp execOp
  simp only [hop,resolve,invoke,builtin,Sem.run_bind,Sem.run_pure,Result.andThen_ok,List.map_toArray,List.map_cons,List.map_nil,hK.j.fits.ev hy,hst]
  have hput:∀ v,a.put ({ o with guard:=none }:Oper).dst v=a:=fun v=>by
   show a.put o.dst v=a
   rw [show o.dst=none by simpa using k2]; rfl
  simp only [Oper.upon,hput]
  refine hKK _ _ ?_
  rw [hrr]
  refine k _ _ ⟨hK.j.setRow hB h4 (aZ _ _ _ _) ⟨by rw [List.length_set]; exact h3,fun q hq=>?_⟩,hK.f⟩
  rcases List.mem_or_eq_of_mem_set hq with hq | rfl
  ·exact h2 q hq
  ·exact hzl
 ·cases hk
end
abbrev CDel (P:Program) (f:FuncId) (args:Array Value) (w:World) (g m cap:Nat) (e:TypeId) (kk:Nat) (l:List (List Value)) (m':Nat) (l':List (List Value)):Prop :=
 ∀ base,Ent.ok base w (.row (.slice (some ⟨g,0,none⟩) m cap) e kk l)→Calls P f args w fun en w'=>en=.returned (.slice (some ⟨g,0,none⟩) m' cap)∧Low [g] w w'∧Ent.ok base w' (.row (.slice (some ⟨g,0,none⟩) m' cap) e kk l')
def cutW (w:World) (g:Nat):World:={ w with heap:=w.heap.extract 0 g }
theorem cutW_size {w:World} {g:Nat} (h:g < w.heap.size):(cutW w g).heap.size=g:=by unfold cutW; simp; omega
section
variable {P:Program}
theorem ok_base {base base':Nat} {w:World} {g m cap kk:Nat} {e:TypeId} {l:List (List Value)} (h:Ent.ok base w (.row (.slice (some ⟨g,0,none⟩) m cap) e kk l)) (hb:base'≤g):Ent.ok base' w (.row (.slice (some ⟨g,0,none⟩) m cap) e kk l):=by
 obtain ⟨⟨h0,h1⟩,h2⟩:=h
 refine ⟨⟨h0,?_⟩,h2⟩
 rcases h1 with ⟨q,-⟩ | ⟨g',cap',cur,q,hb',hg,hn,hm,hs,ht⟩
 ·cases q
 ·obtain ⟨rfl,-⟩:g=g'∧cap=cap':=by simp only [Value.slice.injEq,Option.some.injEq,Addr.mk.injEq] at q; exact ⟨q.1.1,q.2.2⟩
  exact .inr ⟨g,cap',cur,q,hb,hg,hn,hm,hs,ht⟩
theorem x_conL {f:FuncId} {fn:Func} {c:Code} {args:Array Value} {N:Nat} {w0:World} {g m cap kk m':Nat} {te:TypeId} {l l':List (List Value)} (hf:P.funcs[f]?=some fn) (hb:fn.body=some c) (hN:fn.ntmps=N) (hle:Nat.ble args.size N=true)
  (body:∀ (Q:Exit→Act→World→Prop),
   (∀ {E:List (Nat × Value)} {B:List Ent} {F:List Fac} {h':Vw} {a:Act} {w:World} {k:Nat} {r:List (List Value)} (vs:List Value),K ⟨N,cutW w0 g,[],[]⟩ E B F h' a w→Sees ⟨w0,[g]⟩ h'→Res P a w fn.results.toList vs→.row (.slice (some ⟨g,0,none⟩) k cap) te kk r∈B→pack vs=.slice (some ⟨g,0,none⟩) m' cap→m'≤k→r.take m'=l'→Q .ret a w∧Q .normal a w) →
   ∀ a w,K ⟨N,cutW w0 g,[],[]⟩ (argE 0 args.toList) [.row (.slice (some ⟨g,0,none⟩) m cap) te kk l] [] ⟨w0,[g]⟩ a w→Goal P c Q (.code []) [] a w):CDel P f args w0 g m cap te kk l m' l':=by
 intro base hrow
 have hlt:=(hrow.1.lt g rfl).2
 have hbase:=(hrow.1.lt g rfl).1
 have hsz:=cutW_size hlt
 have hle:=Nat.le_of_ble_eq_true hle
 refine calls_of_wp hf hb ?_
 rw [hN]
 refine body _ (fun {E B F h' a w k r} vs hK hs hR hB hv hk hr=>?_) _ _ ⟨⟨fun d v hv=>?_,by simp; omega,rfl,⟨rfl,rfl,rfl,by rw [hsz]; omega,fun k hk _=>?_⟩,?_,fun e he=>?_,by simp [blk,Ent.blocks,Value.ownBlock],fun b hb=>?_,fun b hb=>by cases hb⟩,fun x hx=>by cases hx⟩
 ·have hp:bodyPost P fn (fun en w'=>en=.returned (.slice (some ⟨g,0,none⟩) m' cap)∧Low [g] w0 w'∧Ent.ok base w' (.row (.slice (some ⟨g,0,none⟩) m' cap) te kk l')) .ret a w:=by
   have hsw:Sees ⟨w0,[g]⟩ ⟨w,blk B++[]⟩:=hs.trans hK.j.sees
   have hlw:=hK.j.low
   refine ⟨hK.j.defers,pack vs,run_results hR,by rw [hv],⟨hlw.os,hlw.tape,hlw.output,hsw.size,fun k hk hm=>hsw.block k hk hm⟩,?_⟩
   rw [← hr]
   exact row_take (ok_base (hK.j.ents _ hB) hbase) hk
  exact ⟨hp,hp⟩
 ·obtain ⟨h1,h2⟩:=argE_lookup _ _ _ _ hv
  simp only [Nat.sub_zero,Array.getElem?_toList] at h2
  have hd:=(Array.getElem?_eq_some_iff.1 h2).1
  simp only [Act.eval,Array.getD_eq_getD_getElem?]
  rw [Array.getElem?_append_left hd,h2]
  rfl
 ·rw [hsz] at hk
  show w0.heap[k]?=(w0.heap.extract 0 g)[k]?
  rw [Array.getElem?_extract_of_lt (by simp; omega)]; simp
 ·refine ⟨Nat.le_refl _,fun _ _ _=>rfl,fun b hb _=>?_⟩
  simpa [blk,Ent.blocks,Value.ownBlock] using hb
 ·rw [List.mem_singleton.1 he,hsz]
  exact ok_base hrow (Nat.le_refl _)
 ·refine .inl ?_
  have:b=g:=by simpa [blk,Ent.blocks,Value.ownBlock] using hb
  rw [this,hsz]; exact Nat.le_refl _
end
section
variable {P:Program} {C:Fx} {E:List (Nat × Value)} {B:List Ent} {F:List Fac} {h:Vw} {a:Act} {w:World}
theorem nodup_erase:∀ {B:List Ent},(blk B).Nodup→∀ i,(blk (B.eraseIdx i)).Nodup
 | [],h,_=>by simpa using h
 | x :: B,h,0=>by
  simp only [blk,List.flatMap_cons,List.nodup_append] at h
  exact h.2.1
 | x :: B,h,i + 1=>by
  simp only [blk,List.flatMap_cons,List.nodup_append,List.eraseIdx_cons_succ] at h ⊢
  refine ⟨h.1,nodup_erase h.2.1 i,fun a ha b hb=>h.2.2 a ha b ?_⟩
  obtain ⟨y,hy,hb⟩:=List.mem_flatMap.1 hb
  exact List.mem_flatMap.2 ⟨y,List.mem_of_mem_eraseIdx hy,hb⟩
theorem K.frozenB (hK:K C E B F h a w) (i:Nat) {b:Nat} {cs:List Value} (hB:B[i]?=some (.box b cs)) (hC:C.wr=[]):∃ h',Sees h h'∧Cells h' b 0 cs∧K C E (B.eraseIdx i) F h' a w:=by
 have hJ:=hK.j
 have hm:=List.mem_of_getElem? hB
 have hsub:∀ x∈blk (B.eraseIdx i),x∈blk B:=fun b hb=>by
  obtain ⟨x,hx,hb⟩:=List.mem_flatMap.1 hb
  exact List.mem_flatMap.2 ⟨x,List.mem_of_mem_eraseIdx hx,hb⟩
 have hnd:b ∉ blk (B.eraseIdx i):=by
  intro hin
  obtain ⟨x,hx,hbx⟩:=List.mem_flatMap.1 hin
  obtain ⟨j,hj⟩:=List.getElem?_of_mem hx
  rw [List.getElem?_eraseIdx] at hj
  split at hj
  ·exact ent_apart hJ.nodup hB hj (by omega) b (by simp [Ent.blocks]) hbx
  ·exact ent_apart hJ.nodup hB hj (by omega) b (by simp [Ent.blocks]) hbx
 have hs:Sees h ⟨w,blk (B.eraseIdx i)++C.bad0⟩:=⟨hJ.sees.size,hJ.sees.block,fun b hb hlt=>by
  refine hJ.sees.bad b ?_ hlt
  rcases List.mem_append.1 hb with g | g
  ·exact List.mem_append_left _ (hsub b g)
  ·exact List.mem_append_right _ g⟩
 have hx:Box w b cs:=hJ.ents _ hm
 have hnb:b ∉ blk (B.eraseIdx i)++C.bad0:=fun hin=>by
  rcases List.mem_append.1 hin with g | g
  ·exact hnd g
  ·have h1:=hJ.badlt b g
   rcases hJ.own b (List.mem_flatMap.2 ⟨_,hm,by simp [Ent.blocks]⟩) with q | q
   ·omega
   ·rw [hC] at q; cases q
 refine ⟨⟨w,blk (B.eraseIdx i)++C.bad0⟩,hs,⟨hx.lt,hnb,fun j v hv=>?_⟩,⟨hJ.fits,hJ.size,hJ.defers,hJ.low,Sees.refl _,fun x hx=>hJ.ents x (List.mem_of_mem_eraseIdx hx),?_,fun b hb=>hJ.own b (hsub b hb),hJ.badlt⟩,hK.facs hs⟩
 ·rw [Nat.zero_add]; exact hx.cells j v hv
 ·exact nodup_erase hJ.nodup i
end
section
variable {P:Program} {C:Fx} {c0:Code} {Q:Exit→Act→World→Prop} {h:Vw} {s:Z}
theorem g_frozenb (i:Nat) {b:Nat} {cs:List Value} (k:∀ h',Sees h h'→Cells h' b 0 cs→Go P C c0 Q h' ((s.dB i).aF b 0 cs)) (hB:s.B[i]?=some (.box b cs):=by kernel_rfl) (hC:C.wr=[]:=by kernel_rfl):Go P C c0 Q h s:=.mk fun a w hK=>by
 obtain ⟨h',s',c,hK'⟩:=hK.frozenB i hB hC
 exact (k h' s' c).go a w (hK'.fact c)
def EndL (P:Program) (C:Fx) (c0:Code) (Q:Exit→Act→World→Prop) (fn:Func) (h0:Vw) (g cap kk m':Nat) (te:TypeId) (l':List (List Value)):Prop :=
 ∀ {s:Z} {h:Vw} {k:Nat} {r:List (List Value)} (i:Nat) (vs:List Value),Sees h0 h→(endZ P s fn.results.toList [] vs [] []).map (·.1)=(endZ P s fn.results.toList [] vs [] []).map (·.2)→s.B[i]?=some (.row (.slice (some ⟨g,0,none⟩) k cap) te kk r)→pack vs=.slice (some ⟨g,0,none⟩) m' cap→m'≤k→r.take m'=l'→Go P C c0 Q h s
theorem g_conL {f:FuncId} {fn:Func} {c:Code} {args:Array Value} {N:Nat} {w0:World} {g m cap kk m':Nat} {te:TypeId} {l l':List (List Value)} (hf:P.funcs[f]?=some fn)
  (body:∀ (Q:Exit→Act→World→Prop),EndL P ⟨N,cutW w0 g,[],[]⟩ c Q fn ⟨w0,[g]⟩ g cap kk m' te l'→Go P ⟨N,cutW w0 g,[],[]⟩ c Q ⟨w0,[g]⟩ ⟨.code [],[],argE 0 args.toList,[.row (.slice (some ⟨g,0,none⟩) m cap) te kk l],[]⟩)
  (hb:fn.body=some c:=by kernel_rfl) (hN:fn.ntmps=N:=by rfl) (hle:Nat.ble args.size N=true:=by kernel_rfl):CDel P f args w0 g m cap te kk l m' l':=by
 refine x_conL hf hb hN hle fun Q hQ a w hK=>(body Q (fun {s h' k r} i vs hs hc hB hv hk hr=>.mk fun a w hK'=>?_)).go a w hK
 have hc:=map_pair hc
 have c1:=hc _ (List.mem_cons_self ..)
 have c3:∀ e∈resZ P s fn.results.toList [] vs,e.1=e.2:=fun e he=>hc e (List.mem_cons_of_mem _ (List.mem_cons_of_mem _ he))
 simp only [Any.b.injEq,Bool.and_eq_true] at c1
 obtain ⟨⟨e1,e2⟩,-⟩:=c1
 have hks:s.ks=[]:=by simpa using e2
 have q:=hQ vs hK' hs (resZ_res hK' c3) (List.mem_of_getElem? hB) hv hk hr
 rw [hks]
 generalize s.p=pt at *
 unfold isEnd at e1
 split at e1
 ·exact q.2
 ·exact q.1
 ·cases e1
theorem g_clear1 (i q:Nat) {g m cap kk c:Nat} {e te t:TypeId} {l:List (List Value)} {r zs:List Value} {y:Operand} {z:Value} (hr:l[q]?=some r) (ht:P.underlying t=some (.slice te)) (h1:∀ u∈zs,u.oneCell'=true) (k:Go P C c0 Q h (s.nx0.cB i (.row (.slice (some ⟨g,0,none⟩) m cap) e kk (l.set q zs))))
  (hp:isOps s.p=true:=by kernel_rfl) (hk:goodOp0 s.E (s.ops c0) (nnOf s.p)=true:=by kernel_rfl) (hop:(s.op c0).op=.call { callee:=.builtin .clear,args:=#[y],argTypes:=#[t] }:=by kernel_rfl) (hB:s.B[i]?=some (.row (.slice (some ⟨g,0,none⟩) m cap) e kk l):=by kernel_rfl)
  (hy:evE s.E y=some (.slice (some ⟨g,0 + q * kk,none⟩) 1 c):=by kernel_rfl) (hz:∀ w,(zeroValue te).run P w=.ok z w:=by intro _; kernel_rfl) (hzc:(Builtin.zeroCells z.cells 1).toList=zs:=by kernel_rfl) (hzl:zs.length=kk:=by kernel_rfl):Go P C c0 Q h s :=
 g_ops hp fun a w hK=>x_clear1 hK i q hk hop hB hy hr ht hz hzc h1 hzl k.go
end
abbrev CDelV (P:Program) (f:FuncId) (args:Array Value) (w:World) (v:Value) (e:TypeId) (kk:Nat) (l:List (List Value)) (v':Value) (l':List (List Value)):Prop :=
 ∀ base,Ent.ok base w (.row v e kk l)→Calls P f args w fun en w'=>en=.returned v'∧Low v.ownBlock.toList w w'∧Ent.ok base w' (.row v' e kk l')
theorem own_sl (A:Option Addr) (n c n' c':Nat):(Value.slice A n c).ownBlock=(Value.slice A n' c').ownBlock:=by cases A <;> rfl
theorem row_cases {base:Nat} {w:World} {v:Value} {kk:Nat} {e:TypeId} {l:List (List Value)} (h:Ent.ok base w (.row v e kk l)):(v=.slice none 0 0∧l=[])∨∃ g cap,v=.slice (some ⟨g,0,none⟩) l.length cap∧l.length≤cap:=by
 rcases h.1.2 with ⟨q,q2⟩ | ⟨g,cap,cur,q,hb,hg,hn,hm,hs,ht⟩
 ·exact .inl ⟨q,List.length_eq_zero_iff.1 q2⟩
 ·exact .inr ⟨g,cap,q,hn⟩
section
variable {P:Program} {C:Fx} {E:List (Nat × Value)} {B:List Ent} {h:Vw} {a:Act} {w w':World}
theorem J.calledR (hJ:J C E B h a w) {i kk:Nat} {v v':Value} {e:TypeId} {l l':List (List Value)} (hB:B[i]?=some (.row v e kk l)) (hbk:v.ownBlock=v'.ownBlock) (hl:Low v.ownBlock.toList w w') (hok:Ent.ok C.w0.heap.size w' (.row v' e kk l')) :
  J C E (B.set i (.row v' e kk l')) ⟨w',blk B++C.bad0⟩ a w'∧Sees h ⟨w',blk B++C.bad0⟩:=by
 rcases row_cases (hJ.ents _ (List.mem_of_getElem? hB)) with ⟨rfl,rfl⟩ | ⟨g,cap,rfl,-⟩
 ·rcases row_cases hok with ⟨rfl,rfl⟩ | ⟨g,cap,rfl,-⟩
  ·have e1:B.set i (.row (.slice none 0 0) e kk [])=B:=List.ext_getElem? fun j=>by
    rw [List.getElem?_set]
    split
    ·subst_vars
     rw [hB,if_pos (List.getElem?_eq_some_iff.1 hB).1]
    ·rfl
   rw [e1]
   exact hJ.called hl
  ·cases hbk
 ·have hb':v'.ownBlock=some g:=hbk.symm
  exact hJ.calledE (b:=g) rfl (by simp [Ent.blocks,hb']) hB hl hok
end
section
variable {P:Program} {Q:Exit→Act→World→Prop} {R:Reg} {ops:Array Oper} {i:Nat}
theorem r_callset (hT:eK R=true) (hA:dK R ops=true) (hmono:∀ q∈R.F,∀ x h h',Sees h h'→q.2 x h→q.2 x h') (d:Nat) (v v':Gh→Value) (dp:List Nat) (p:Nat) (hp:R.T[p]?=some (i,d,v')) (hF:(R.F.all fun t=>t.1 != i)=true) (hk:∀ x,okR R ops i d dp x=true)
  (e:Nat) (ge:Gent) (hg:R.G[e]?=some ge) (ho:only R i (some e)=true) (hs:sync R i ge=true) {kk:Nat} {te:TypeId} {l l':List (List Value)} (hbk:∀ x,(v x).ownBlock=(v' x).ownBlock)
  (hc0:∀ x,iK (R.an i) x ge=some (.row (v x) te kk l)) (hc1:∀ x,iK (i :: R.an i) x ge=some (.row (v' x) te kk l'))
  (k:FuncId) (args:Gh→Array Value) (hr:∀ x w,(execOp (evD (rdE R i dp x)) (kX ops i)).run P w=.ok (.enter k (args x)) w)
  (hc:∀ x H,Sees R.h H→(∀ (j:Nat) (q:Nat × (Gh→Vw→Prop)),R.F[j]?=some q→(R.an i).contains q.1=true→q.2 x H)→(∀ b,(v x).ownBlock=some b→b∈H.bad)→CDelV P k (args x) H.w (v x) te kk l (v' x) l'):StepAt' P ops Q R i:=by
 refine .mk fun o D x h a w hio hn hd I=>?_
 obtain ⟨h1,h2,h3,h4⟩:=dX hio (hk x)
 have han:=uJ hA hio I hd
 have hcur:=(jK (x':=x) I hn han hs).trans (hc0 x)
 have hB0:=pJ (D:=D) (x:=x) hg
 rw [hcur] at hB0
 have hB1:BD R.G D x=BD (R.G.take e) D x++.row (v x) te kk l :: BD (R.G.drop (e + 1)) D x:=by rw [hB0]; simp
 have hB:(BD R.G D x)[(BD (R.G.take e) D x).length]?=some (.row (v x) te kk l):=by rw [hB1]; simp
 have hgb:∀ b,(v x).ownBlock=some b→b∈blk (BD R.G D x)++R.C.bad0:=fun b q=>List.mem_append_left _ (List.mem_flatMap.2 ⟨_,List.mem_of_getElem? hB,by simp [Ent.blocks,q]⟩)
 have hcc:=hc x ⟨w,blk (BD R.G D x)++R.C.bad0⟩ (I.sees.trans I.mem.sees) (fun j q hq hc=>hmono q (List.mem_of_getElem? hq) x _ _ I.mem.sees (I.facts q (List.mem_of_getElem? hq) (han _ (by simpa using hc)))) hgb _ (I.mem.ents _ (List.mem_of_getElem? hB))
 refine wpOp_call hio (vQ hio (eY hio h1 I hd hn) h2) (by rw [tY (eY hio h1 I hd hn) h4,← mX hio]; exact hr x w) (hcc.mono ?_)
 rintro en w' ⟨rfl,hl,hok⟩
 obtain ⟨j,s⟩:=I.mem.calledR (v':=v' x) hB (hbk x) hl hok
 refine ⟨_,rfl,x,⟨w',blk (BD R.G D x)++R.C.bad0⟩,?_⟩
 rw [h3]
 have hcur1:=(at_next I hn han hs x).trans (hc1 x)
 refine I.next hio hT hA hn hd ?_ s (fun _ _ _=>rfl) (.inl ⟨d,_,List.mem_of_getElem? hp,rfl⟩) (fun q hq hD=>hmono q hq x _ _ s (I.facts q hq (hD.resolve_left fun e=>?_)))
 ·rw [jX ho hg,hcur1]
  have j':=j
  rw [hB1] at j'
  have j'':J R.C [] (BD (R.G.take e) D x++(some (Ent.row (v' x) te kk l')).toList++BD (R.G.drop (e + 1)) D x) ⟨w',blk (BD R.G D x)++R.C.bad0⟩ a w':=by
   rw [hB1]; simpa using j'
  exact j''.putN _ _
 ·have:=List.all_eq_true.1 hF q hq
  simp [e] at this
end
theorem run_lo1 {P:Program} {w:World} {o:Oper} {ρ:Operand→Value} {t e:TypeId} {x y:Operand} {g n cap k kk:Nat} (ho:o.op=.slice t x (some y) none none) (hx:ρ x=.slice (some ⟨g,0,none⟩) n cap) (hy:ρ y=.int .i64 ((k:Nat):Int)) (hn:n=k + 1) (hc:n≤cap) (ht:P.underlying t=some (.slice e)) (he:(P.info? e).map (·.size)=some kk) :
  (execOp ρ o).run P w=.ok (.value (.slice (some ⟨g,0 + k * kk,none⟩) 1 (cap - k))) w:=by
 have:=run_lo (P:=P) (w:=w) (A':=some ⟨g,0 + k * kk,none⟩) ho hx hy (by omega) ht he (by rw [if_neg (by omega)]; simp [Addr.add])
 rw [show n - k=1 by omega] at this
 exact this
def delN (nm:ByteArray) (l:Env):Env:=l.filter fun p => !(p.1.toList == nm.toList)
theorem del_none {nm:ByteArray} {l:Env} (h:∀ p∈l,(p.1.toList == nm.toList)=false):delN nm l=l:=by
 unfold delN
 exact List.filter_eq_self.2 fun p hp=>by rw [h p hp]; rfl
theorem del_some {nm:ByteArray} {l:Env} {i:Nat} {x:ByteArray × Vl} (hx:l[i]?=some x) (hxn:(x.1.toList == nm.toList)=true) (h:∀ j y,j≠i→l[j]?=some y→(y.1.toList == nm.toList)=false):delN nm l=l.eraseIdx i:=by
 have hi:=(List.getElem?_eq_some_iff.1 hx).1
 have e:l=l.take i++x :: l.drop (i + 1):=by
  obtain ⟨q,e⟩:=List.getElem?_eq_some_iff.1 hx
  rw [← e,← List.drop_eq_getElem_cons hi,List.take_append_drop]
 have h1:∀ p∈l.take i,(!(p.1.toList == nm.toList))=true:=fun p hp=>by
  obtain ⟨u,hu1,hu2⟩:=List.mem_take_iff_getElem.1 hp
  rw [h u p (by omega) (by rw [← hu2]; exact List.getElem?_eq_getElem _)]; rfl
 have h2:∀ p∈l.drop (i + 1),(!(p.1.toList == nm.toList))=true:=fun p hp=>by
  obtain ⟨u,hu⟩:=List.getElem?_of_mem hp
  rw [List.getElem?_drop] at hu
  rw [h _ p (by omega) hu]; rfl
 unfold delN
 rw [List.eraseIdx_eq_take_drop_succ]
 conv=>lhs; rw [e]
 rw [List.filter_append,List.filter_cons,hxn,List.filter_eq_self.2 h1,List.filter_eq_self.2 h2]
 rfl
def shL (l:Env) (i k:Nat):Env:=(l.eraseIdx i).take k++l.drop k
theorem er_get {l:Env} {i j:Nat} (h:i≤j):(l.eraseIdx i)[j]?=l[j + 1]?:=by rw [List.getElem?_eraseIdx,if_neg (by omega)]
theorem shL_zero (l:Env) (i:Nat):shL l i i=l:=by
 unfold shL
 have e:(l.eraseIdx i).take i=l.take i:=List.ext_getElem? fun j=>by
  rw [List.getElem?_take,List.getElem?_take]
  split
  ·rw [List.getElem?_eraseIdx,if_pos (by omega)]
  ·rfl
 rw [e,List.take_append_drop]
theorem shL_get {l:Env} {i k j:Nat} (hi:i < l.length) (hk:k < l.length) (hj:k≤j):(shL l i k)[j]?=l[j]?:=by
 unfold shL
 have hl:((l.eraseIdx i).take k).length=k:=by rw [List.length_take,List.length_eraseIdx,if_pos hi]; omega
 rw [List.getElem?_append_right (by omega),hl,List.getElem?_drop,show k + (j - k)=j by omega]
theorem shL_succ {l:Env} {i k:Nat} {x:ByteArray × Vl} (hi:i≤k) (hx:l[k + 1]?=some x):(shL l i k).set k x=shL l i (k + 1):=by
 have hl:=(List.getElem?_eq_some_iff.1 hx).1
 have e1:((l.eraseIdx i).take k).length=k:=by rw [List.length_take,List.length_eraseIdx,if_pos (by omega)]; omega
 have e2:=er_get (l:=l) hi
 rw [hx] at e2
 unfold shL
 rw [List.set_append_right _ _ (by omega),e1,Nat.sub_self,List.take_add_one,e2,Option.toList_some,List.append_assoc]
 have:l.drop k=l[k] :: l.drop (k + 1):=List.drop_eq_getElem_cons (by omega)
 rw [this]
 rfl
theorem shL_take {l:Env} {i k:Nat} (hi:i≤k) (hk:l.length=k + 1):(shL l i k).take k=l.eraseIdx i:=by
 unfold shL
 have e1:(l.eraseIdx i).length=k:=by rw [List.length_eraseIdx,if_pos (by omega)]; omega
 rw [List.take_of_length_le (l:=l.eraseIdx i) (by omega),List.take_append_of_le_length (by omega),List.take_of_length_le (by omega)]
theorem del_at {nm:ByteArray} {l:Env} (hd:(l.map (·.1)).Nodup) (h:¬ ∀ p∈l,(p.1.toList == nm.toList)=false):∃ (i:Nat) (x:ByteArray × Vl),l[i]?=some x∧(x.1.toList == nm.toList)=true∧∀ (j:Nat) (y:ByteArray × Vl),j≠i→l[j]?=some y→(y.1.toList == nm.toList)=false:=by
 obtain ⟨x,hx⟩:=Classical.not_forall.1 h
 obtain ⟨hx,hn⟩:=Classical.not_imp.1 hx
 have hn:(x.1.toList == nm.toList)=true:=by simpa using hn
 obtain ⟨i,hi⟩:=List.getElem?_of_mem hx
 refine ⟨i,x,hi,hn,fun j y hj hy=>Bool.eq_false_iff.2 fun q=>hj ?_⟩
 have e:y.1=x.1:=by
  rw [hZ,decide_eq_true_eq] at q hn
  rw [q,hn]
 have h1:(l.map (·.1))[j]?=some y.1:=by rw [List.getElem?_map,hy]; rfl
 have h2:(l.map (·.1))[i]?=some y.1:=by rw [List.getElem?_map,hi,e]; rfl
 exact (List.getElem?_inj (List.getElem?_eq_some_iff.1 h1).1 hd).1 (h1.trans h2.symm)
end Go.Proofs.YthckljafinhepaaGreat
