/-
  For all raw things and numbers TextTurned returns true: a line that stands twice, and a wrong line, are told by number. No condition beyond the card's own.
-/
import Derived.Test.YthplkompdehjlaaGreatDoorZR9
import Derived.Test.YthplkompdehjlaaGreatDoorZR51
import Derived.Test.YthplkompdehjlaaGreatDoorZR44
import Derived.Test.YthplkompdehjlaaGreatDoorZR53
import Derived.Test.YthplkompdehjlaaGreatDoorZR52
set_option maxRecDepth 100000
namespace Go.Proofs.YthplkompdehjlaaGreatDoor
open Go.RowKit
set_option linter.unusedVariables false
def nI:Value→Int
 | .int _ n=>n
 | _=>0
abbrev lnR (L:List (List UInt8)):List (List Value):=L.map fun x=>[Value.string (mkB x)]
theorem lnR_str (L:List (List UInt8)):eY (L.map mkB)=lnR L:=by show List.map _ (List.map mkB L)=_; rw [List.map_map]; rfl
theorem lnR_ins (L:List (List UInt8)) (i:Nat) (x:List UInt8):(lnR L).take i++[Value.string (mkB x)] :: (lnR L).drop i=lnR (L.take i++x :: L.drop i):=by
 show (L.map _).take i++_ :: (L.map _).drop i=List.map _ (L.take i++x :: L.drop i)
 rw [← List.map_take,← List.map_drop,List.map_append,List.map_cons]
theorem lnR_len (L:List (List UInt8)):Len 1 (lnR L):=fun r hr=>by obtain ⟨s,-,rfl⟩:=List.mem_map.1 hr; rfl
theorem lnR_one (L:List (List UInt8)):One (lnR L):=fun r hr u hu=>by obtain ⟨s,-,rfl⟩:=List.mem_map.1 hr; rw [List.mem_singleton.1 hu]; rfl
theorem ins_each {fm:Fm} {ρ:List Int} {lv:Nat→Nat} (hok:OkFm fm ρ lv) (hw:FmW fm) {i:Nat} {x:List UInt8} (hx:x.length≤10005):∀ y∈(lnF fm).take i++x :: (lnF fm).drop i,y.length≤10005:=fun y hy=>by
 rcases List.mem_append.1 hy with q | q
 ·exact (lnF_each hok hw y (List.mem_of_mem_take q)).1
 ·rcases List.mem_cons.1 q with rfl | q
  ·exact hx
  ·exact (lnF_each hok hw y (List.mem_of_mem_drop q)).1
theorem CRow.sluT {P:Program} {f:FuncId} {args:Array Value} {h:Vw} {e:TypeId} {k:Nat} {l:List (List Value)} (hc:CRow P f args h e k (fun _ rows=>rows=l)):CRow P f args h e k (fun v rows=>(∃ u,v=.slice (sA u) (sN u) (sC u))∧rows=l):=by
 intro a1 a2 a3 a4
 refine (hc a1 a2 a3 a4).mono ?_
 rintro en w' ⟨v,Bo,h1,h2,h3,h4,r,h5,rfl⟩
 refine ⟨v,Bo,h1,h2,h3,h4,_,h5,?_,rfl⟩
 rcases h5.1.2 with ⟨rfl,-⟩ | ⟨g,cap,cur,rfl,-⟩
 ·exact ⟨.slice none 0 0,rfl⟩
 ·exact ⟨.slice (some ⟨g,0,none⟩) _ cap,rfl⟩
theorem read_twin (fm:Fm) (ρ:List Int) (lv:Nat→Nat) (h:Vw) (lk:Lk h) (hok:OkFm fm ρ lv) (hw:FmW fm) (few:fm.fields.length≤13) (fewp:fm.pages.length≤5) (n1:1≤fm.fields.length) (i:Nat) (x:List UInt8) (hx:(lnF fm)[i]?=some x) :
  C0 Tryz.prog 14 #[.string (mkB (Lib.join ((lnF fm).take i++x :: (lnF fm).drop i) [10]))] h (fun r _=>(((∃ f∈fm.fields,pK f)∨∃ p∈fm.pages,lW p)∧∃ n,r=.tuple #[.agg #[.slice none 0 0,.slice none 0 0],.int .i64 n,.int .i64 1])∨(¬ ((∃ f∈fm.fields,pK f)∨∃ p∈fm.pages,lW p))∧r=.tuple #[.agg #[.slice none 0 0,.slice none 0 0],.int .i64 0,.int .i64 6]):=by
 have hl:=(List.getElem?_eq_some_iff.1 hx).1
 rw [lnF_len] at hl
 rcases Nat.lt_or_ge i fm.fields.length with q | q
 ·obtain ⟨f,hf⟩:∃ f,fm.fields[i]?=some f:=⟨_,List.getElem?_eq_getElem q⟩
  obtain rfl:fdL f=x:=Option.some.inj ((lnF_fd hf).symm.trans hx)
  exact read_twinF fm ρ lv h lk hok hw few i f hf
 ·obtain ⟨p,hp⟩:∃ p,fm.pages[i - fm.fields.length]?=some p:=⟨_,List.getElem?_eq_getElem (by omega)⟩
  obtain rfl:pgW++pgL p=x:=Option.some.inj ((lnF_pg q hp).symm.trans hx)
  have:=read_twinP fm ρ lv h lk hok hw n1 fewp (i - fm.fields.length) p hp
  rwa [show fm.fields.length + (i - fm.fields.length)=i by omega] at this
set_option maxHeartbeats 4000000 in
theorem textTurned_c (l:List RawD) (sl:Value) (kd:Int) (h:Vw) (lk:Lk h) (hr:RS h 4 sl (l.map RawD.cs)) (hlen:l.length * 40≤reachBytes) (hok:∀ r∈l,r.ok) (k0 : -9223372036854775808≤kd) (k1:kd≤9223372036854775807) :
  C0 Tryz.prog 7 #[sl,.int .i64 kd] h (fun v _=>v=.bool true):=by
 have hF:=fun H q=>form_c l sl H q hlen hok
 have hM:=form_okM l
 have hW:=form_fmW l
 have hfl:=form_len l
 have hpl:=form_pages l
 have hnl:=rV l
 have hnp:=nPages_le l
 have hP:=fun A n c B m d H q1 q2=>printForm_any (yK l) _ _ A n c B m d H q1 hM hW q2
 have hSp:=fun H q=>c_lines (yK l) _ _ hM hW (by omega) H q
 have hLL:=long_line (fm:=yK l)
 have hll:=lnF_len (yK l)
 have p0:=vW kd ((lnF (yK l)).length:Int) (by omega)
 have p1:=uW kd ((lnF (yK l)).length:Int) (by omega)
 have hpk:=fun H=>wJ kd ((lnF (yK l)).length:Int) H k0 k1 (by omega) (by omega)
 obtain ⟨aN,haN⟩:∃ k:Nat,cJ kd ((lnF (yK l)).length:Int)=(k:Int):=⟨_,(Int.toNat_of_nonneg p0).symm⟩
 rw [haN] at p1 hpk
 obtain ⟨x,hx⟩:∃ x,(lnF (yK l))[aN]?=some x:=⟨_,List.getElem?_eq_getElem (by omega)⟩
 have hxe:=(lnF_each hM hW x (List.mem_of_getElem? hx)).1
 have hR1:=fun H q=>read_twin (yK l) _ _ H q hM hW (by omega) (by omega) (by omega) aN x hx
 have hRw:FmR (yK l):=⟨fun f hf=>⟨_,hM.fields.each f hf⟩,hW.fd,hW.pg⟩
 have hR2:=fun H q=>read_what (yK l) aN H q hRw (by omega) (by omega) (by omega)
 have hE1:=ins_each hM hW (i:=aN) hxe
 have hE2:=ins_each hM hW (i:=aN) (x:=[119,104,97,116]) (by decide)
 have hsub:((∃ f∈(yK l).fields.take aN,pK f)∨∃ p∈(yK l).pages.take (aN - (yK l).fields.length),lW p)→((∃ f∈(yK l).fields,pK f)∨∃ p∈(yK l).pages,lW p):=fun q=>q.elim (fun ⟨f,f1,f2⟩=>.inl ⟨f,List.mem_of_mem_take f1,f2⟩) (fun ⟨p,f1,f2⟩=>.inr ⟨p,List.mem_of_mem_take f1,f2⟩)
 clear hM hW hRw haN
 have hnl2:(yK l).fields.length + (yK l).pages.length≤14:=by omega
 have hT0:((mkB (Lib.join (lnF (yK l)) [10])).toList == (⟨#[]⟩:ByteArray).toList)=false:=beq_eq_false_iff_ne.2 (by
  rw [Lib.toList_data,Lib.toList_data,oV]
  have h2:2≤(lnF (yK l)).length:=by omega
  generalize lnF (yK l)=L at h2
  cases L with
  | nil=>simp at h2
  | cons y r=>cases r with
   | nil=>simp at h2
   | cons z r=>rw [jV]; intro q; simp at q)
 generalize yK l=fm at *
 generalize mkB (Lib.join (lnF fm) [10])=T at *
 obtain ⟨L,hL⟩:∃ L,lnF fm=L:=⟨_,rfl⟩
 rw [hL] at hll hLL hpk hSp hR1 hR2 hE1 hE2 p1 hx
 rw [← hll] at hSp hnl2
 have hJ1:=fun v H q=>c_joinL (L.take aN++x :: L.drop aN) v H q (by rw [List.length_append,List.length_cons,List.length_take,List.length_drop]; omega) hE1
 have hJ2:=fun v H q=>c_joinL (L.take aN++[119,104,97,116] :: L.drop aN) v H q (by rw [List.length_append,List.length_cons,List.length_take,List.length_drop]; omega) hE2
 have hCl:=fun H v (q:RS H 1 v (eY (L.map mkB)))=>CRow.sluT (c_cloneS q (by rw [List.length_map]; omega))
 rw [lnR_str] at hCl
 have hlr:(lnR L).length=L.length:=List.length_map _
 have hI:=fun (x:List UInt8) v1 vb H=>c_insertS v1 (lnR L) aN vb [.string (mkB x)] H (lnR_len L) rfl (lnR_one L) (fun u hu=>by rw [List.mem_singleton.1 hu]; rfl) (by omega) (by omega)
 simp only [lnR_ins] at hI
 have hI1:=fun v1 vb H=>hI x v1 vb H
 have hI2:∀ v1 vb H,_:=fun v1 vb H=>hI [119,104,97,116] v1 vb H
 have hrow:(lnR L)[aN]?=some [.string (mkB x)]:=by rw [List.getElem?_map,hx]; rfl
 generalize L.take aN++x :: L.drop aN=L1 at *
 generalize L.take aN++[119,104,97,116] :: L.drop aN=L2 at *
 generalize mkB (Lib.join L1 [10])=Y1 at *
 generalize mkB (Lib.join L2 [10])=Y2 at *
 have hB1:((∃ f∈fm.fields,pK f)∨∃ p∈fm.pages,lW p)→∀ H,Lk H→C0 Tryz.prog 14 #[.string Y1] H (fun r h'=>∃ u,r=.tuple #[.agg #[.slice none 0 0,.slice none 0 0],.int .i64 (nI u),.int .i64 1]∧RS h' 1 (.slice none 0 0) []):=fun g H q=>(hR1 H q).mono fun v h' _ k=>by
  rcases k with ⟨-,n,k⟩ | ⟨k,-⟩
  ·exact ⟨.int .i64 n,k,RS.nil _ 1⟩
  ·exact absurd g k
 have hB2:¬ ((∃ f∈fm.fields,pK f)∨∃ p∈fm.pages,lW p)→∀ H,Lk H→C0 Tryz.prog 14 #[.string Y1] H (fun r _=>r=.tuple #[.agg #[.slice none 0 0,.slice none 0 0],.int .i64 0,.int .i64 6]):=fun g H q=>(hR1 H q).mono fun v h' _ k=>by
  rcases k with ⟨k,-⟩ | ⟨-,k⟩
  ·exact absurd k g
  ·exact k
 generalize hLB:((∃ f∈fm.fields.take aN,pK f)∨∃ p∈fm.pages.take (aN - fm.fields.length),lW p)=LB at *
 have hB3:LB→∀ H,Lk H→C0 Tryz.prog 14 #[.string Y2] H (fun r h'=>∃ u,r=.tuple #[.agg #[.slice none 0 0,.slice none 0 0],.int .i64 (nI u),.int .i64 1]∧RS h' 1 (.slice none 0 0) []):=fun g H q=>(hR2 H q).mono fun v h' _ k=>by
  rcases k with ⟨-,n,k⟩ | ⟨k,-⟩
  ·exact ⟨.int .i64 n,k,RS.nil _ 1⟩
  ·exact absurd g k
 have hB4:¬ LB→∀ H,Lk H→C0 Tryz.prog 14 #[.string Y2] H (fun r _=>r=.tuple #[.agg #[.slice none 0 0,.slice none 0 0],.int .i64 ((aN:Int) + 1),.int .i64 3]):=fun g H q=>(hR2 H q).mono fun v h' _ k=>by
  rcases k with ⟨k,-⟩ | ⟨-,k⟩
  ·exact absurd k g
  ·exact k
 clear hR1 hR2
 obtain ⟨sx,hsx⟩:∃ sx,mkB x=sx:=⟨_,rfl⟩
 rw [hsx] at hI1 hrow
 obtain ⟨nN,hNN⟩:∃ n,L.length=n:=⟨_,rfl⟩
 rw [hNN] at hpk hSp p1 hnl2
 generalize fm.fields.length=nf at *
 generalize fm.pages.length=np at *
 obtain ⟨A0,cap,rfl,-,-,-⟩:=hr.form
 generalize (l.map RawD.cs).length=len0 at *
 refine fQ Tryz.func7 (c:=Tryz.f7.body.getD .skip) (N:=89) ?_
 intro hbx hbad Q hQ
 refine go0 8 [] [] ?_
 refine bQ (fun H sH=>hF _ (hr.sees sH)) ?_; rintro _ W1 S2 ⟨A,c,B,d,rfl,hFm⟩
 refine go0 11 [.cl 16 #[.agg #[.slice A nf c,.slice B np d]] (.tuple #[.string T,Vi 0])] [] ?_ (ho:=(And.intro (fun H sH=>hP _ _ _ _ _ _ _ (lk.sees (S2.trans sH)) (hFm.sees sH)) (trivial)))
 refine bQ (fun H sH=>hSp _ (lk.sees (S2.trans sH))) ?_; rintro _ W3 S4 ⟨b,rfl,hrl⟩
 refine go0 8 [] [] ?_
 have hkn:=RS.cell hrl hrow
 refine go0 5 [.cl 9 #[Vi kd,Vi (nN:Int)] (Vi (aN:Int))] [] ?_ (ho:=(And.intro (fun H sH=>hpk _) (trivial)))
 refine gQ (hkn.sees (Sees.refl _)) ?_
 by_cases hlong:(∃ f∈fm.fields,pK f)∨∃ p∈fm.pages,lW p
 ·skip
  refine tQ 19 3 [.pu,.e (fun gh=>.slice (sA (gh 1)) (sN (gh 1)) (sC (gh 1))) 0 (fun gh=>.row (.slice (sA (gh 1)) (sN (gh 1)) (sC (gh 1))) 9 1 (lnR L)),.pu,.pu,.pu,.v (fun gh=>.pointer (some ⟨b,0 + aN * 1,none⟩)),.lf 0 0,.e (fun gh=>.slice (some ⟨(sJ (gh 7)),0,none⟩) 1 1) 1 (fun gh=>.box (sJ (gh 7)) [.string sx]),.e (fun gh=>.slice (sA (gh 8)) (sN (gh 8)) (sC (gh 8))) 0 (fun gh=>.row (.slice (sA (gh 8)) (sN (gh 8)) (sC (gh 8))) 9 1 (lnR L1)),.v (fun gh=>.string Y1),.f (fun gh=>.tuple #[.agg #[Vz,Vz],Vi (nI (gh 10)),Vi 1]) (fun gh hh=>RS hh 1 (Vz) []),.pu,.pu,.pu,.pu,.al 2,.st 2 0,.pu,.pu] [(1,false),(7,true),(8,false),(10,false),(15,true)] (And.intro (fun _ _ _ s c=>c.sees s) (trivial)) ?_ ?_
  ·intro R hT hA hmono
   refine And.intro (r_callown hT hA hmono ⟨fun _ _=>by kernel_rfl,fun _ _=>by kernel_rfl,fun _ _=>by kernel_rfl⟩ (by kernel_rfl) 31 (fun u=>.slice (sA u) (sN u) (sC u)) [0] 1 (by kernel_rfl) (fun _=>by kernel_rfl) 0 (GN R 0) (by kernel_rfl) (by kernel_rfl) (by kernel_rfl) 9 1 (fun gh=>lnR L) (fun _=>by kernel_rfl) (fun _=>by kernel_rfl) (fun _ _=>rfl) 23 (fun gh=>#[Vs b nN nN]) (fun _ _=>by kernel_rfl) (fun gh H sH fH=>hCl _ _ (hrl.sees sH))) ?_
   refine And.intro (t_ix hT hA b 0 nN nN aN (fun gh=>.pointer (some ⟨b,0 + aN * 1,none⟩)) ((by omega))) ?_
   refine And.intro (r_allocF hT hA hmono ⟨fun _ _=>by kernel_rfl,fun _ _=>by kernel_rfl,fun _ _=>by kernel_rfl⟩ (by kernel_rfl) 37 (fun g=>Vs g 1 1) [6] 7 (by kernel_rfl) (fun _=>by kernel_rfl) 1 (GN R 1) (by kernel_rfl) (by kernel_rfl) (by kernel_rfl) (fun gh=>[.string sx]) (fun _=>by kernel_rfl) (fun _=>by kernel_rfl) 9 (fun _ _=>by kernel_rfl) (fun _ _=>by kernel_rfl)) ?_
   refine And.intro (r_callE' hT hA hmono ⟨fun _ _=>by kernel_rfl,fun _ _=>by kernel_rfl,fun _ _=>by kernel_rfl⟩ (by kernel_rfl) 38 (fun u=>.slice (sA u) (sN u) (sC u)) [1,2,7] 8 (by kernel_rfl) (fun _=>by kernel_rfl) [0,1] (by kernel_rfl) (by kernel_rfl) (fun gh=>[.row (.slice (sA (gh 1)) (sN (gh 1)) (sC (gh 1))) 9 1 (lnR L),.box (sJ (gh 7)) [.string sx]]) (fun gh u=>[.row (.slice (sA u) (sN u) (sC u)) 9 1 (lnR L1),.box (sJ (gh 7)) [.string sx]]) (fun _=>by kernel_rfl) (fun _=>by kernel_rfl) (fun _ _=>by kernel_rfl) 22 (fun gh=>#[.slice (sA (gh 1)) (sN (gh 1)) (sC (gh 1)),Vi (aN:Int),.slice (some ⟨(sJ (gh 7)),0,none⟩) 1 1]) (fun _ _=>by kernel_rfl) (fun gh H sH fH=>hI1 _ _ _)) ?_
   refine And.intro (r_callq hT hA hmono 39 (fun gh=>.string Y1) [8] 9 (by kernel_rfl) (by kernel_rfl) (by kernel_rfl) (fun _=>by kernel_rfl) 0 (GN R 0) (by kernel_rfl) (by kernel_rfl) (fun gh=>.slice (sA (gh 8)) (sN (gh 8)) (sC (gh 8))) 9 1 (lnR L1) (fun _=>by kernel_rfl) 21 (fun gh=>#[.slice (sA (gh 8)) (sN (gh 8)) (sC (gh 8)),.string ⟨#[10]⟩]) (fun _ _=>by kernel_rfl) (fun gh H bH sH fH rQ=>hJ1 _ _ rQ)) ?_
   refine And.intro (r_call hT hA hmono ⟨fun _ _=>by kernel_rfl,fun _ _=>by kernel_rfl,fun _ _=>by kernel_rfl⟩ 40 (fun u=>.tuple #[.agg #[Vz,Vz],Vi (nI u),Vi 1]) [9] 10 (by kernel_rfl) (by kernel_rfl) (fun _=>by kernel_rfl) 14 (fun gh=>#[.string Y1]) (fun _ _=>by kernel_rfl) (fun gh H sH fH lent=>C0.facts (R:=R) (x:=gh) (i:=10) (n:=0) (F:=(fun u=>.tuple #[.agg #[Vz,Vz],Vi (nI u),Vi 1])) (G:=fun u hh=>RS hh 1 (Vz) []) (f:=fun gh hh=>RS hh 1 (Vz) []) (hB1 hlong _ (lk.sees (S2.trans (S4.trans sH)))) (by kernel_rfl) (by kernel_rfl) (fun _ _ r=>r))) ?_
   trivial
  rintro u31 b5 u38 u40 b6 W7 S8 ⟨f40,-⟩
  replace f40:RS W7 1 (Vz) []:=f40
  refine go0 4 [] [] ?_
  by_cases hlb:LB
  ·refine g_callrow (fun H sH=>hCl _ _ (hrl.sees (S8.trans sH))) ?_; rintro _ _ ⟨⟨u46,rfl⟩,rfl⟩
   refine go1 2 [.own] [] ?_
   intro bw8
   refine g_front 1 ?_
   refine g_callE (Bi:=[.row (.slice (sA u46) (sN u46) (sC u46)) 9 1 (lnR L),.box bw8 [.string ⟨#[119,104,97,116]⟩]]) [0,1] (fun H sH=>hI2 _ _ _) ?_; rintro _ _ W9 S10 ⟨u49,rfl,rfl⟩
   refine g_callq (fun a w hJ=>hJ2 _ _ (hJ.j.rowQ (v:=.slice (sA u49) (sN u49) (sC u49)) (e:=9) (k:=1) (l:=lnR L2) 0 (by kernel_rfl))) ?_; intro W11 S12
   refine bQ (fun H sH=>hB3 hlb _ (lk.sees (S2.trans (S4.trans (S8.trans (S10.trans (S12.trans sH))))))) ?_; rintro _ W13 S14 ⟨u51,rfl,-⟩
   refine go1 33 [.own,.b 0 0] [(59,.bool (T.toList == (⟨#[]⟩:ByteArray).toList),.bool false)] ?_ (hc:=(And.intro (congrArg Value.bool hT0) (trivial)))
   intro b15
   refine mQ [0,1,0,1,1,1,1,1,1,1] [.block 0,.seq [1,1,1,1,1,1,1,1]] (fun (k:Nat) X=>∃ (W16:Vw) ,X W16 [(8,Vi (aN:Int)),(11,Vi 1),(13,Vi (nI u51)),(14,Vi 1),(61,Vs b nN nN),(62,Vi (nN:Int)),(63,Vi (k:Int))] [.box b15 [Vz,Vz],.row (.slice (sA u49) (sN u49) (sC u49)) 9 1 (lnR L2),.box bw8 [.string ⟨#[119,104,97,116]⟩],.row (.slice (sA u38) (sN u38) (sC u38)) 9 1 (lnR L1),.box b5 [.string sx],.box b6 [Vz,Vz]] [(b,0 + aN * 1,[.string sx])]∧Sees W13 W16∧(k≤nN)∧(∀ (i:Nat) (x:List UInt8),i < k→L[i]?=some x→x.length≤160)) (fun k=>nN - k) (0) (fun X q=>⟨W13,q _ _ _ _ ⟨rfl,by kernel_rfl⟩,Sees.refl _,Nat.zero_le _,fun i x q=>absurd q (Nat.not_lt_zero i)⟩) ?_
   rintro k a w ⟨W16,hJ,S17,hk,hsh⟩; refine pQ hJ ?_; clear hJ a w
   refine go0 6 [] [] ?_
   rcases (by omega:k < nN∨k=nN) with hlt | hke
   ·obtain ⟨y,hy⟩:∃ y,L[k]?=some y:=⟨_,List.getElem?_eq_getElem (by omega)⟩
    have hrow2:(lnR L)[k]?=some [.string (mkB y)]:=by rw [List.getElem?_map,hy]; rfl
    have hys:=pV y
    generalize mkB y=sy at *
    refine wQ (t:=decide ((k:Int) < (nN:Int))) (decide_eq_true (by omega)) ?_
    refine go0 6 [] [] ?_
    have c18:=RS.cell hrl (hrow2)
    refine gQ (c18.sees (S8.trans (S10.trans (S12.trans (S14.trans S17))))) ?_
    refine go0 12 [.ix b 0 nN nN k,.f 0 0] [] ?_ (ho:=(And.intro (by first | omega | (simp; omega)) (trivial)))
    by_cases hl:160 < sy.size
    ·refine wQ (t:=decide ((sy.size:Int) > 160)) (decide_eq_true (by omega)) ?_
     refine go0 14 [] [] ?_
     refine lQ ?_
     refine go0 2 [] [] ?_
     refine hQ.to [.bool true] (fun H sH=>?_)
     exact rfl
    ·skip
     refine iQ (t:=decide ((sy.size:Int) > 160)) (decide_eq_false (by omega)) ?_
     refine go0 7 [] [(76,Vi (IntKind.i64.wrap ((k:Int) + 1)),Vi ((k:Int) + 1))] ?_ (hc:=(And.intro (jJ (by omega) (by omega)) (trivial)))
     exact vQ (k + 1) (fun X q=>⟨W16,q _ _ _ _ ⟨rfl,by kernel_rfl⟩,S17,by omega,fun i z q1 q2=>(Nat.lt_succ_iff_lt_or_eq.1 q1).elim (fun q=>hsh i z q q2) (fun q=>by subst q; rw [hy] at q2; obtain rfl:=Option.some.inj q2; omega)⟩) (by omega)
   ·skip
    obtain ⟨j,y,q1,q2⟩:=hLL hlong
    have hj:=(List.getElem?_eq_some_iff.1 q1).1
    have:=hsh j y (by omega) q1
    omega
  ·skip
   refine g_callrow (fun H sH=>hCl _ _ (hrl.sees (S8.trans sH))) ?_; rintro _ _ ⟨⟨u46,rfl⟩,rfl⟩
   refine go1 2 [.own] [] ?_
   intro bw8
   refine g_front 1 ?_
   refine g_callE (Bi:=[.row (.slice (sA u46) (sN u46) (sC u46)) 9 1 (lnR L),.box bw8 [.string ⟨#[119,104,97,116]⟩]]) [0,1] (fun H sH=>hI2 _ _ _) ?_; rintro _ _ W19 S20 ⟨u49,rfl,rfl⟩
   refine g_callq (fun a w hJ=>hJ2 _ _ (hJ.j.rowQ (v:=.slice (sA u49) (sN u49) (sC u49)) (e:=9) (k:=1) (l:=lnR L2) 0 (by kernel_rfl))) ?_; intro W21 S22
   refine go1 34 [.cl 14 #[.string Y2] (.tuple #[.agg #[Vz,Vz],Vi ((aN:Int) + 1),Vi 3]),.own,.b 0 0] [(59,.bool (T.toList == (⟨#[]⟩:ByteArray).toList),.bool false)] ?_ (ho:=(And.intro (fun H sH=>hB4 hlb _ (lk.sees (S2.trans (S4.trans (S8.trans (S20.trans (S22.trans sH))))))) (trivial))) (hc:=(And.intro (congrArg Value.bool hT0) (trivial)))
   intro b23
   refine mQ [0,1,0,1,1,1,1,1,1,1] [.block 0,.seq [1,1,1,1,1,1,1,1]] (fun (k:Nat) X=>∃ (W24:Vw) ,X W24 [(8,Vi (aN:Int)),(11,Vi 1),(13,Vi ((aN:Int) + 1)),(14,Vi 3),(61,Vs b nN nN),(62,Vi (nN:Int)),(63,Vi (k:Int))] [.box b23 [Vz,Vz],.row (.slice (sA u49) (sN u49) (sC u49)) 9 1 (lnR L2),.box bw8 [.string ⟨#[119,104,97,116]⟩],.row (.slice (sA u38) (sN u38) (sC u38)) 9 1 (lnR L1),.box b5 [.string sx],.box b6 [Vz,Vz]] [(b,0 + aN * 1,[.string sx])]∧Sees W21 W24∧(k≤nN)∧(∀ (i:Nat) (x:List UInt8),i < k→L[i]?=some x→x.length≤160)) (fun k=>nN - k) (0) (fun X q=>⟨W21,q _ _ _ _ ⟨rfl,by kernel_rfl⟩,Sees.refl _,Nat.zero_le _,fun i x q=>absurd q (Nat.not_lt_zero i)⟩) ?_
   rintro k a w ⟨W24,hJ,S25,hk,hsh⟩; refine pQ hJ ?_; clear hJ a w
   refine go0 6 [] [] ?_
   rcases (by omega:k < nN∨k=nN) with hlt | hke
   ·obtain ⟨y,hy⟩:∃ y,L[k]?=some y:=⟨_,List.getElem?_eq_getElem (by omega)⟩
    have hrow2:(lnR L)[k]?=some [.string (mkB y)]:=by rw [List.getElem?_map,hy]; rfl
    have hys:=pV y
    generalize mkB y=sy at *
    refine wQ (t:=decide ((k:Int) < (nN:Int))) (decide_eq_true (by omega)) ?_
    refine go0 6 [] [] ?_
    have c26:=RS.cell hrl (hrow2)
    refine gQ (c26.sees (S8.trans (S20.trans (S22.trans S25)))) ?_
    refine go0 12 [.ix b 0 nN nN k,.f 0 0] [] ?_ (ho:=(And.intro (by first | omega | (simp; omega)) (trivial)))
    by_cases hl:160 < sy.size
    ·refine wQ (t:=decide ((sy.size:Int) > 160)) (decide_eq_true (by omega)) ?_
     refine go0 14 [] [] ?_
     refine lQ ?_
     refine go0 2 [] [] ?_
     refine hQ.to [.bool true] (fun H sH=>?_)
     exact rfl
    ·skip
     refine iQ (t:=decide ((sy.size:Int) > 160)) (decide_eq_false (by omega)) ?_
     refine go0 7 [] [(76,Vi (IntKind.i64.wrap ((k:Int) + 1)),Vi ((k:Int) + 1))] ?_ (hc:=(And.intro (jJ (by omega) (by omega)) (trivial)))
     exact vQ (k + 1) (fun X q=>⟨W24,q _ _ _ _ ⟨rfl,by kernel_rfl⟩,S25,by omega,fun i z q1 q2=>(Nat.lt_succ_iff_lt_or_eq.1 q1).elim (fun q=>hsh i z q q2) (fun q=>by subst q; rw [hy] at q2; obtain rfl:=Option.some.inj q2; omega)⟩) (by omega)
   ·skip
    obtain ⟨j,y,q1,q2⟩:=hLL hlong
    have hj:=(List.getElem?_eq_some_iff.1 q1).1
    have:=hsh j y (by omega) q1
    omega
 ·skip
  refine tQ 19 3 [.pu,.e (fun gh=>.slice (sA (gh 1)) (sN (gh 1)) (sC (gh 1))) 0 (fun gh=>.row (.slice (sA (gh 1)) (sN (gh 1)) (sC (gh 1))) 9 1 (lnR L)),.pu,.pu,.pu,.v (fun gh=>.pointer (some ⟨b,0 + aN * 1,none⟩)),.lf 0 0,.e (fun gh=>.slice (some ⟨(sJ (gh 7)),0,none⟩) 1 1) 1 (fun gh=>.box (sJ (gh 7)) [.string sx]),.e (fun gh=>.slice (sA (gh 8)) (sN (gh 8)) (sC (gh 8))) 0 (fun gh=>.row (.slice (sA (gh 8)) (sN (gh 8)) (sC (gh 8))) 9 1 (lnR L1)),.v (fun gh=>.string Y1),.v (fun gh=>.tuple #[.agg #[Vz,Vz],Vi 0,Vi 6]),.pu,.pu,.pu,.pu,.al 2,.st 2 0,.pu,.pu] [(1,false),(7,true),(8,false),(15,true)] (trivial) ?_ ?_
  ·intro R hT hA hmono
   refine And.intro (r_callown hT hA hmono ⟨fun _ _=>by kernel_rfl,fun _ _=>by kernel_rfl,fun _ _=>by kernel_rfl⟩ (by kernel_rfl) 31 (fun u=>.slice (sA u) (sN u) (sC u)) [0] 1 (by kernel_rfl) (fun _=>by kernel_rfl) 0 (GN R 0) (by kernel_rfl) (by kernel_rfl) (by kernel_rfl) 9 1 (fun gh=>lnR L) (fun _=>by kernel_rfl) (fun _=>by kernel_rfl) (fun _ _=>rfl) 23 (fun gh=>#[Vs b nN nN]) (fun _ _=>by kernel_rfl) (fun gh H sH fH=>hCl _ _ (hrl.sees sH))) ?_
   refine And.intro (t_ix hT hA b 0 nN nN aN (fun gh=>.pointer (some ⟨b,0 + aN * 1,none⟩)) ((by omega))) ?_
   refine And.intro (r_allocF hT hA hmono ⟨fun _ _=>by kernel_rfl,fun _ _=>by kernel_rfl,fun _ _=>by kernel_rfl⟩ (by kernel_rfl) 37 (fun g=>Vs g 1 1) [6] 7 (by kernel_rfl) (fun _=>by kernel_rfl) 1 (GN R 1) (by kernel_rfl) (by kernel_rfl) (by kernel_rfl) (fun gh=>[.string sx]) (fun _=>by kernel_rfl) (fun _=>by kernel_rfl) 9 (fun _ _=>by kernel_rfl) (fun _ _=>by kernel_rfl)) ?_
   refine And.intro (r_callE' hT hA hmono ⟨fun _ _=>by kernel_rfl,fun _ _=>by kernel_rfl,fun _ _=>by kernel_rfl⟩ (by kernel_rfl) 38 (fun u=>.slice (sA u) (sN u) (sC u)) [1,2,7] 8 (by kernel_rfl) (fun _=>by kernel_rfl) [0,1] (by kernel_rfl) (by kernel_rfl) (fun gh=>[.row (.slice (sA (gh 1)) (sN (gh 1)) (sC (gh 1))) 9 1 (lnR L),.box (sJ (gh 7)) [.string sx]]) (fun gh u=>[.row (.slice (sA u) (sN u) (sC u)) 9 1 (lnR L1),.box (sJ (gh 7)) [.string sx]]) (fun _=>by kernel_rfl) (fun _=>by kernel_rfl) (fun _ _=>by kernel_rfl) 22 (fun gh=>#[.slice (sA (gh 1)) (sN (gh 1)) (sC (gh 1)),Vi (aN:Int),.slice (some ⟨(sJ (gh 7)),0,none⟩) 1 1]) (fun _ _=>by kernel_rfl) (fun gh H sH fH=>hI1 _ _ _)) ?_
   refine And.intro (r_callq hT hA hmono 39 (fun gh=>.string Y1) [8] 9 (by kernel_rfl) (by kernel_rfl) (by kernel_rfl) (fun _=>by kernel_rfl) 0 (GN R 0) (by kernel_rfl) (by kernel_rfl) (fun gh=>.slice (sA (gh 8)) (sN (gh 8)) (sC (gh 8))) 9 1 (lnR L1) (fun _=>by kernel_rfl) 21 (fun gh=>#[.slice (sA (gh 8)) (sN (gh 8)) (sC (gh 8)),.string ⟨#[10]⟩]) (fun _ _=>by kernel_rfl) (fun gh H bH sH fH rQ=>hJ1 _ _ rQ)) ?_
   refine And.intro (t_v hT hA hmono (k:=14) (args:=(fun gh=>#[.string Y1])) (f:=fun gh=>.tuple #[.agg #[Vz,Vz],Vi 0,Vi 6]) (fun gh H sH fH lent=>hB2 hlong _ (lk.sees (S2.trans (S4.trans sH))))) ?_
   trivial
  rintro u31 b27 u38 b28 W29 S30 -
  refine go0 4 [] [] ?_
  refine g_callrow (fun H sH=>hCl _ _ (hrl.sees (S30.trans sH))) ?_; rintro _ _ ⟨⟨u46,rfl⟩,rfl⟩
  refine go1 2 [.own] [] ?_
  intro bw8
  refine g_front 1 ?_
  refine g_callE (Bi:=[.row (.slice (sA u46) (sN u46) (sC u46)) 9 1 (lnR L),.box bw8 [.string ⟨#[119,104,97,116]⟩]]) [0,1] (fun H sH=>hI2 _ _ _) ?_; rintro _ _ W31 S32 ⟨u49,rfl,rfl⟩
  refine g_callq (fun a w hJ=>hJ2 _ _ (hJ.j.rowQ (v:=.slice (sA u49) (sN u49) (sC u49)) (e:=9) (k:=1) (l:=lnR L2) 0 (by kernel_rfl))) ?_; intro W33 S34
  refine go1 34 [.cl 14 #[.string Y2] (.tuple #[.agg #[Vz,Vz],Vi ((aN:Int) + 1),Vi 3]),.own,.b 0 0] [(59,.bool (T.toList == (⟨#[]⟩:ByteArray).toList),.bool false)] ?_ (ho:=(And.intro (fun H sH=>hB4 (fun q=>hlong (hsub q)) _ (lk.sees (S2.trans (S4.trans (S30.trans (S32.trans (S34.trans sH))))))) (trivial))) (hc:=(And.intro (congrArg Value.bool hT0) (trivial)))
  intro b35
  refine mQ [0,1,0,1,1,1,1,1,1,1] [.block 0,.seq [1,1,1,1,1,1,1,1]] (fun (k:Nat) X=>∃ (W36:Vw) ,X W36 [(8,Vi (aN:Int)),(11,Vi 6),(13,Vi ((aN:Int) + 1)),(14,Vi 3),(61,Vs b nN nN),(62,Vi (nN:Int)),(63,Vi (k:Int))] [.box b35 [Vz,Vz],.row (.slice (sA u49) (sN u49) (sC u49)) 9 1 (lnR L2),.box bw8 [.string ⟨#[119,104,97,116]⟩],.row (.slice (sA u38) (sN u38) (sC u38)) 9 1 (lnR L1),.box b27 [.string sx],.box b28 [Vz,Vz]] [(b,0 + aN * 1,[.string sx])]∧Sees W33 W36∧(k≤nN)∧(∀ (i:Nat) (x:List UInt8),i < k→L[i]?=some x→x.length≤160)) (fun k=>nN - k) (0) (fun X q=>⟨W33,q _ _ _ _ ⟨rfl,by kernel_rfl⟩,Sees.refl _,Nat.zero_le _,fun i x q=>absurd q (Nat.not_lt_zero i)⟩) ?_
  rintro k a w ⟨W36,hJ,S37,hk,hsh⟩; refine pQ hJ ?_; clear hJ a w
  refine go0 6 [] [] ?_
  rcases (by omega:k < nN∨k=nN) with hlt | hke
  ·obtain ⟨y,hy⟩:∃ y,L[k]?=some y:=⟨_,List.getElem?_eq_getElem (by omega)⟩
   have hrow2:(lnR L)[k]?=some [.string (mkB y)]:=by rw [List.getElem?_map,hy]; rfl
   have hys:=pV y
   generalize mkB y=sy at *
   refine wQ (t:=decide ((k:Int) < (nN:Int))) (decide_eq_true (by omega)) ?_
   refine go0 6 [] [] ?_
   have c38:=RS.cell hrl (hrow2)
   refine gQ (c38.sees (S30.trans (S32.trans (S34.trans S37)))) ?_
   refine go0 12 [.ix b 0 nN nN k,.f 0 0] [] ?_ (ho:=(And.intro (by first | omega | (simp; omega)) (trivial)))
   by_cases hl:160 < sy.size
   ·refine wQ (t:=decide ((sy.size:Int) > 160)) (decide_eq_true (by omega)) ?_
    refine go0 14 [] [] ?_
    refine lQ ?_
    refine go0 2 [] [] ?_
    refine hQ.to [.bool true] (fun H sH=>?_)
    exact rfl
   ·skip
    refine iQ (t:=decide ((sy.size:Int) > 160)) (decide_eq_false (by omega)) ?_
    refine go0 7 [] [(76,Vi (IntKind.i64.wrap ((k:Int) + 1)),Vi ((k:Int) + 1))] ?_ (hc:=(And.intro (jJ (by omega) (by omega)) (trivial)))
    exact vQ (k + 1) (fun X q=>⟨W36,q _ _ _ _ ⟨rfl,by kernel_rfl⟩,S37,by omega,fun i z q1 q2=>(Nat.lt_succ_iff_lt_or_eq.1 q1).elim (fun q=>hsh i z q q2) (fun q=>by subst q; rw [hy] at q2; obtain rfl:=Option.some.inj q2; omega)⟩) (by omega)
  ·skip
   refine iQ (t:=decide ((k:Int) < (nN:Int))) (decide_eq_false (by omega)) ?_
   refine go0 2 [] [] ?_
   refine lQ ?_
   refine go0 20 [] [(86,Vi (IntKind.i64.wrap ((aN:Int) + 1)),Vi ((aN:Int) + 1))] ?_ (hc:=(And.intro (jJ (by omega) (by omega)) (trivial)))
   refine hQ.to [.bool (((aN:Int) + 1) == ((aN:Int) + 1))] (fun H sH=>?_)
   exact congrArg Value.bool (beq_self_eq_true _)
theorem textTurned_walk (v:Value) (l:List RawD) (kd:Int) (w:World) (h:RawsOf w v l) (k0 : -9223372036854775808≤kd) (k1:kd≤9223372036854775807) (hL:laidMet Tryz.prog Rows.textTurnedRow.laid w) (hsh:w.ShapedOpen Tryz.prog) :
  Calls Tryz.prog 7 #[v,.int .i64 kd] w fun e w'=>e=.returned (.bool true)∧Below w.heap.size w w' :=
 lawC (textTurned_c l v kd ⟨w,[]⟩ (Lk.of_laid hL hsh) h.rs h.2.1 h.2.2 k0 k1)
namespace textTurnedLaw
open Go.ChangeShapes Go.WideShapes Go.ChangeAt Go.RowKit
open Go.ChangeMaps (open_string shut_string)
set_option linter.unusedVariables false
theorem contract (H:Type) (enc:TypeId × Value→H) (W:World) (base:Nat) (args:Array Value) (ds gs:List (DataW H)) (before:List MemPlace)
  (hval0:∀ (j:Nat) t v,Tryz.f7.params[j]?=some t→args[j]?=some v→Value.okWide Tryz.prog W .any base t v)
  (hW:DataW.Whole enc Tryz.prog Tryz.f7.params.toList Rows.textTurnedSpec.vars false W args.toList ds gs before)
  (hsz0:(DataW.weightsEach Tryz.prog (Tryz.f7.params.toList++Rows.textTurnedSpec.plain.varTypes Tryz.prog) (ds++gs)).all (· ≤ reachBytes)=true) (hL:laidMet Tryz.prog Rows.textTurnedRow.laid W) (hsh:W.ShapedOpen Tryz.prog) :
  Calls Tryz.prog 7 args W fun e W'=>∃ v,e=.returned v∧Rows.textTurnedSpec.post enc Tryz.prog Tryz.f7 false true false false W args v W':=by
 have hval:∀ (j:Nat) t v,Tryz.f7.params[j]?=some t→args[j]?=some v→Value.okWide Tryz.prog W .any base t v:=hval0
 have hsz:(DataW.weightsEach Tryz.prog (Tryz.f7.params.toList++Rows.textTurnedSpec.plain.varTypes Tryz.prog) (ds++gs)).all (· ≤ reachBytes)=true:=hsz0
 have hW':=hW
 obtain ⟨p,q,hA0,hV,rfl,hfz,hnd⟩:=hW
 have hA:DataW.TrodAll enc Tryz.prog W 0 (fun _=>true) true Tryz.f7.params.toList args.toList ds p:=hA0
 rw [Tryz.params7] at hA hval hsz
 obtain ⟨v0,vs0,d0,ds0,p0,q0,hargs,rfl,rfl,h0,r0⟩:=trodAll_cons hA
 obtain ⟨v1,vs1,d1,ds1,p1,q1,rfl,rfl,rfl,h1,r1⟩:=trodAll_cons r0
 obtain ⟨rfl,rfl,rfl⟩:=trodAll_nil r1
 obtain rfl:args=#[v0,v1]:=by cases args; simp_all
 obtain ⟨rfl,rfl⟩:=trodVars_none hV
 have k0:=h0
 have lt0:∀ x∈p0,x.block < W.heap.size:=by obtain ⟨m,hm⟩:=k0; exact DataW.trod_lt m _ _ _ hm
 obtain ⟨a0,w0⟩:=open_rows (hval 0 22 v0 rfl rfl) h0 (fun es ss hd=>sized_slice hsz (j:=0) (t:=22) (elems:=es) (spare:=ss) rfl (by rw [hd]; rfl) Tryz.underlying22)
 have k1:=h1
 have lt1:∀ x∈p1,x.block < W.heap.size:=by obtain ⟨m,hm⟩:=k1; exact DataW.trod_lt m _ _ _ hm
 obtain ⟨a1,rfl,-,-,w1⟩:=open_int Tryz.underlying3 (hval 1 3 v1 rfl rfl) h1
 clear hA0 hval0 hsz0
 refine (textTurned_walk v0 a0 a1 W w0 (int_lo w1) (int_hi w1) hL hsh).mono fun e W' ⟨he,bel⟩=>?_
 subst he
 exact ⟨_,rfl,_,_,_,[],_,[],hW',trodAll_mk1 (shut_bool Tryz.underlying4 _),(trodAll_cons_mk (Below.trod laidOutTrue (by kernel_rfl) (of_decide_eq_true (by kernel_rfl)) k0 bel lt0) (trodAll_cons_mk (Below.trod laidOutTrue (by kernel_rfl) (of_decide_eq_true (by kernel_rfl)) k1 bel lt1) trodAll_mk0)),rfl,bel.frame _,fun h=>by cases h⟩
theorem reads (os:Os) {H:Type} (enc:TypeId × Value→H):∃ places,DataW.whole enc Tryz.prog ((World.laidAll Tryz.prog os Rows.textTurnedRow.laid).forCall (fun _ _=>0) ⟨#[],#[.slice none 0 0,.int .i64 0],[]⟩).memory Tryz.f7.params.toList Rows.textTurnedSpec.vars false (#[.slice none 0 0,.int .i64 0]:Array Value).toList 8=some ([.nil,.lit (.int .i64 0)],[],places) :=
 ⟨[],by kernel_rfl⟩
theorem lifted (os:Os) (started:os.Started) (H:Type) (enc:TypeId × Value→H) (FF:Stop.Interp) :
  ReturnsInHanded {} Tryz.checked os 7 .any ((OpenSpec.ofChange Rows.textTurnedSpec).preRow enc Tryz.prog Tryz.f7 Rows.textTurnedRow.domain false Rows.textTurnedRow.laid) (((OpenSpec.ofChange Rows.textTurnedSpec).at FF).post enc Tryz.prog Tryz.f7 false true false false):=by
 obtain ⟨places,hx⟩:=reads os enc
 refine returnsInHanded_of_row (C:=Tryz.checked) (s:=OpenSpec.ofChange Rows.textTurnedSpec) ownNone started (by kernel_rfl) Tryz.func7
  (witness_row_at (enc:=enc) (C:=Tryz.checked) false (World.laidAll Tryz.prog os Rows.textTurnedRow.laid) #[.slice none 0 0,.int .i64 0] (World.laidAll_os _ _ _) (by kernel_rfl) (by kernel_rfl) (by kernel_rfl)
   (OpenSpec.preRow_of_cond 8 hx (by kernel_rfl) (fun k hk=>by cases hk) (by kernel_rfl) (laidMet_laidAll _ (by kernel_rfl) (by kernel_rfl)))) ?_
 intro W base args ds gs before hval hW _ _ hsz hL hsh _
 rw [MakeChecks.laidMetH_plain _ _ _ (by kernel_rfl)] at hL
 exact contract H enc W base args ds gs before hval hW hsz hL hsh
theorem said:Rows.TextTurnedSaid :=
 OpenClaim.holds_of_cond 7 Tryz.f7 rfl rfl rfl rfl rfl rfl rfl ⟨rfl,rfl,rfl,rfl,rfl⟩ rfl rfl rfl rfl rfl (by kernel_rfl) Tryz.func7 (by kernel_rfl)
  (of_decide_eq_true (by kernel_rfl)) (by unfold Func.isWrapper; first | (rw [if_pos (by decide +kernel)]; kernel_rfl) | (rw [if_neg (by decide +kernel)]; exact ⟨rfl,rfl⟩))
  (fun os started H enc _ FF=>by rw [OpenClaim.pre_eq_preRow]; exact lifted os started H enc FF)
theorem plain (f : FuncId) (fn : Func) (hf : Tryz.pinned.checked.prog.funcNamed "lychway/lychwaykeep.TextTurned" = some f) (hfn : Tryz.pinned.checked.prog.funcs[f]? = some fn) :
  Rows.textTurnedCard.stood.looks=Tryz.pinned.checked.prog.looks []∧∀ (j:Nat) t,fn.params[j]?=some t→Tryz.pinned.checked.prog.wantsStandIn t=false:=by
 obtain rfl : f = 7 := Option.some.inj ((show Tryz.prog.funcNamed "lychway/lychwaykeep.TextTurned" = some 7 by kernel_rfl).symm.trans hf) |>.symm
 obtain rfl:fn=Tryz.f7:=(Option.some.inj (Tryz.func7.symm.trans hfn)).symm
 refine ⟨by kernel_rfl,fun j t ht=>?_⟩
 rw [Tryz.params7] at ht
 have hm:=Array.mem_of_getElem? ht
 simp at hm
 first
  | (obtain rfl:=hm; exact (show Tryz.prog.wantsStandIn _=false by kernel_rfl))
  | (rcases hm with rfl | rfl <;> exact (show Tryz.prog.wantsStandIn _=false by kernel_rfl))
end textTurnedLaw
theorem textTurned_holds:Rows.TextTurnedCardSaid :=
 Claim7.holds_tied_plain_at .later [] _ _ _ _ textTurnedLaw.said (fun _ h=>by cases h) (by kernel_rfl) (fun _ h=>by cases h) textTurned_row_tie rfl ⟨rfl,rfl⟩ (by kernel_rfl) rfl textTurnedLaw.plain (by kernel_rfl)
#print axioms textTurned_holds
end Go.Proofs.YthplkompdehjlaaGreatDoor
