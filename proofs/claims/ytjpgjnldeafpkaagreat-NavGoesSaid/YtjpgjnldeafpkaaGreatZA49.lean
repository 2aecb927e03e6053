/-
  Contract of the laws' passes: whether a page is passed over.
-/
import Derived.Test.YtjpgjnldeafpkaaGreatZA9
import Derived.Test.YtjpgjnldeafpkaaGreatZA47
import Derived.Test.YtjpgjnldeafpkaaGreatZA48
set_option maxRecDepth 100000
namespace Go.Proofs.YtjpgjnldeafpkaaGreat
open Go.RowKit
set_option linter.unusedVariables false
theorem info_fld:(Tryz.prog.info? 47).map (fun i=>(i.zero,i.size,i.bytes))=some (some (.agg #[.string ⟨#[]⟩,.int .i64 0,.int .i64 0,.int .i64 0,.int .i64 0,.int .i64 0,.string ⟨#[]⟩,.string ⟨#[]⟩,.slice none 0 0]),9,112):=by kernel_rfl
set_option maxHeartbeats 2000000 in
theorem clone_fld (v:Value) (l:List (List Value)) (w:World) (h:Sl w 9 v l) (hk:Len 9 l) (h1:One l) (hl:l.length * 112≤140737488355328) :
  Calls Tryz.prog 55 #[v] w (GivesOwn 47 9 l w):=by
 have q22:∀ (w:World) (a:Option Addr) (n c n' c':Nat),(binOp .eql 23 (.slice a n c) (.slice none n' c')).run Tryz.prog w=.ok (.bool a.isNone) w:=fun w a n c n' c'=>Lib.run_eql_slice_nil w _ _ a n c n' c' Tryz.underlying23
 obtain ⟨A,cap,rfl,c1,c2,hA⟩:=h.form
 cases A with
 | none =>
  obtain rfl:=hA rfl
  have h0:l.length=0:=by omega
  obtain rfl:=List.length_eq_zero_iff.1 h0
  go_enter Tryz.func55,Tryz.ntmps55
  go_wp2_with fail
  go_ret
  exact ⟨_,rfl,⟨by simp,.inl ⟨rfl,rfl⟩⟩,Evo.refl _⟩
 | some a =>
  have HR:=Lib.hid h
  have HK:=Lib.hid hk
  have H1:=Lib.hid h1
  clear h hk h1
  go_enter Tryz.func55,Tryz.ntmps55
  go_wp2_with (at_builtin; refine wpList_append_rows rfl (.tmp 5) (.tmp 6) 23 rfl 47 _ 9 112 Tryz.underlying23 info_fld rfl (by decide) w ((Evo.refl _).alloc _) [] l _ _ rfl rfl ⟨World.ownsRow_made w #[] 0 (Nat.le_refl _) (Nat.zero_le _) (by simp)⟩ (HR.out.at ((Evo.refl _).alloc _)) HK.out H1.out ?c1 ?c2 ?_)
  case c1=>simp; omega
  case c2=>simpa using hl
  intro v' w1 hown hbl hg
  have HW:=Lib.hid (⟨hown,hbl⟩:Own w1 w.heap.size 47 9 v' ([]++l).length ([]++l).flatten∧Evo w w1)
  clear hown hg hbl
  go_wp2_with fail
  go_ret
  exact ⟨_,rfl,HW.out.1,HW.out.2⟩
theorem fd_len9 {fs:List Fd} {vs:List Value}:Len 9 (zK fs vs):=fun r hr=>by
 obtain ⟨i,hi⟩:=List.getElem?_of_mem hr
 unfold zK at hi
 rw [List.getElem?_zipWith] at hi
 split at hi
 ·simp only [Option.some.injEq] at hi; subst hi; rfl
 ·cases hi
theorem fd_one9 {fs:List Fd} {vs:List Value} (hs:∀ u∈vs,.slice (sA u) (sN u) (sC u)=u):One (zK fs vs):=fun r hr u hu=>by
 obtain ⟨i,hi⟩:=List.getElem?_of_mem hr
 unfold zK at hi
 rw [List.getElem?_zipWith] at hi
 split at hi
 ·rename_i f v h1 h2
  simp only [Option.some.injEq] at hi; subst hi
  have hv:=hs v (List.mem_of_getElem? h2)
  simp [fdRow] at hu
  rcases hu with rfl | rfl | rfl | rfl | rfl | rfl | rfl | rfl | rfl <;> first | rfl | (rw [← hv]; rfl)
 ·cases hi
theorem c_cloneFd {h:Vw} {v:Value} {fs:List Fd} {vs:List Value} (hr:RS h 9 v (zK fs vs)) (hs:∀ u∈vs,.slice (sA u) (sN u) (sC u)=u) (hl:(zK fs vs).length≤1000):CRow Tryz.prog 55 #[v] h 47 9 (fun v rows=>(∃ u,v=.slice (sA u) (sN u) (sC u))∧rows=zK fs vs) :=
 CRow.slu (CRow.of_own fd_len9 (clone_fld v (zK fs vs) h.w (rs_sl hr) fd_len9 (fd_one9 hs) (by omega)))
def skipF (p:Pg):Fd:=⟨⟨#[115,107,105,112]⟩,2,2,p.skip⟩
theorem skipF_one (p:Pg) (env:Env):oneV (skipF p) [] [] env=mK env p.skip:=by
 show (if (2:Int)=1 then _ else if (2:Int)=3 then _ else mK env p.skip)=_
 rw [if_neg (by decide),if_neg (by decide)]
set_option maxHeartbeats 8000000 in
theorem passes_any (f:Fm) (A:Option Addr) (n c:Nat) (B:Option Addr) (m d:Nat) (va:List Vl) (A1:Option Addr) (c1:Nat) (t:Nat) (p:Pg) (h:Vw) (hgs:OkGs f.fields f.pages) (few:n≤14) (hf:IsForm h (.slice A n c) (.slice B m d) f) (hn:n=f.fields.length) (hm:m=f.pages.length)
  (hv:RS h 3 (.slice A1 n c1) (sY va)) (la:va.length=n) (ov:∀ x∈va,OkV x) (hpt:f.pages[t]?=some p) :
  C0 Tryz.prog 19 #[.agg #[.slice A n c,.slice B m d],.slice A1 n c1,.int .i64 (t:Int)] h (fun r _=>r=.tuple #[.bool (passB p (fcs f.fields va)).1,.bool (passB p (fcs f.fields va)).2]):=by
 have hFa:=fun A c H q1 q2=>facts_l f.fields va A n c A1 c1 H q1 hn (by omega) q2 la
 have henv:∀ q∈fcs f.fields va,OkV q.2:=fcs_ok ov
 have hel:(fcs f.fields va).length≤1000:=by rw [fcs_len (by omega)]; omega
 have hwf:p.skip.op≠0→WfE p.skip∧(szE p.skip).1≤60∧chkE p.skip=0:=fun q=>by
  rcases hgs.skip p (List.mem_of_getElem? hpt) with g | ⟨g1,g2,g3,g4⟩
  ·rw [g] at q; exact absurd rfl q
  ·have hck:chkE p.skip=0:=by
    unfold fitsE ofE at g4
    by_cases e:chkE p.skip=0
    ·exact e
    ·rw [if_neg e,if_neg e] at g4; exact absurd g4 e
   have hz:(szE p.skip).1≤60:=by
    unfold chkE at hck
    split at hck
    ·cases hck
    ·omega
   exact ⟨g2,hz,hck⟩
 have hOne:=fun (q:p.skip.op≠0) v sk H q1 q3=>one_wf (skipF p) v [] (.slice none 0 0) [] (.slice none 0 0) (fcs f.fields va) sk H (fun _=>hwf q) q1 (RS.nil H 7) (RS.nil H 7) q3 (by simp) (by simp) hel henv
 rw [skipF_one] at hOne
 have hml:=hgs.few
 obtain ⟨us,ws,B2,d2,e2,-,hpr,hps,hpg,-,-⟩:=pgs_open hf.pages
 simp only [Value.slice.injEq] at e2
 obtain ⟨rfl,-,rfl⟩:=e2
 obtain ⟨vs,A3,c3,e3,-,-,hr3,hs3,hl3,hsl⟩:=cQ hf.fields
 simp only [Value.slice.injEq] at e3
 obtain ⟨rfl,-,rfl⟩:=e3
 rw [← hm] at hpr
 rw [← hn] at hr3
 have htm:=(List.getElem?_eq_some_iff.1 hpt).1
 have hrl:(zK f.fields vs).length=n:=by rw [bQ hl3,hn]
 have hcl:=fun H v q=>c_cloneFd (h:=H) (v:=v) (fs:=f.fields) (vs:=vs) q hsl (by omega)
 obtain ⟨Au,cu,Bu,mu,du,hprow,hrs,harg⟩:=pg_at hps hpg hpt
 have hrl2:(zK f.fields vs)[n]?=none:=List.getElem?_eq_none (by omega)
 unfold passB
 generalize fcs f.fields va=env at *
 generalize zK f.fields vs=rows at *
 refine uQ Tryz.func19 (c:=Tryz.f19.body.getD .skip) (N:=50) ?_
 intro hbx hbad Q hQ
 refine go2 15 [.own,.b 0 0,.own,.b 0 0] [] ?_
 intro b1 b2
 obtain ⟨b3,o4,rfl,-,c5⟩:=RS.row hpr (hprow)
 refine vQ (c5.sees (Sees.refl _)) ?_
 refine iV 14 1 [.pu,.ld 2 0,.e (fun gh=>.slice (sA (gh 2)) (sN (gh 2)) (sC (gh 2))) 0 (fun gh=>.row (.slice (sA (gh 2)) (sN (gh 2)) (sC (gh 2))) 47 9 rows),.pu,.ld 2 1,.pu,.v (fun gh=>.pointer (some ⟨b3,o4 + t * 8,none⟩)),.pu,.lf 0 2,.pu,.f (fun gh=>.slice (some ⟨(wJ (gh 10)),0,none⟩) 1 1) (fun gh hh=>Cells hh (wJ (gh 10)) 0 [.string ⟨#[115,107,105,112]⟩,Vi 2,Vi 2,Vi p.skip.op,Vi p.skip.k,Vi p.skip.n,.string p.skip.s,.string p.skip.nm,.slice Bu mu du]),.e (fun gh=>.slice (sA (gh 11)) (sN (gh 11)) (sC (gh 11))) 0 (fun gh=>.row (.slice (sA (gh 11)) (sN (gh 11)) (sC (gh 11))) 47 9 (rows++[[.string ⟨#[115,107,105,112]⟩,Vi 2,Vi 2,Vi p.skip.op,Vi p.skip.k,Vi p.skip.n,.string p.skip.s,.string p.skip.nm,.slice Bu mu du]])),.pu,.st 1 0] [(2,false),(10,true),(11,false)] (And.intro (fun _ _ _ s c=>c.sees s) (trivial)) ?_ ?_
 ·intro R hT hA hmono
  refine And.intro (r_callown hT hA hmono ⟨fun _ _=>by kernel_rfl,fun _ _=>by kernel_rfl,fun _ _=>by kernel_rfl⟩ (by kernel_rfl) 13 (fun u=>.slice (sA u) (sN u) (sC u)) [1] 2 (by kernel_rfl) (fun _=>by kernel_rfl) 0 (GN R 0) (by kernel_rfl) (by kernel_rfl) (by kernel_rfl) 47 9 (fun gh=>rows) (fun _=>by kernel_rfl) (fun _=>by kernel_rfl) (fun _ _=>rfl) 55 (fun gh=>#[.slice A n c]) (fun _ _=>by kernel_rfl) (fun gh H sH fH=>hcl _ _ (hr3.sees sH))) ?_
  refine And.intro (oY hT hA b3 o4 m d t (fun gh=>.pointer (some ⟨b3,o4 + t * 8,none⟩)) (by first | omega | (simp; omega))) ?_
  refine And.intro (r_fact hT hA hmono ⟨fun _ _=>by kernel_rfl,fun _ _=>by kernel_rfl,fun _ _=>by kernel_rfl⟩ 21 (fun g=>Vs g 1 1) [9] 10 (by kernel_rfl) (by kernel_rfl) (fun _=>by kernel_rfl) (fun gh=>[.string ⟨#[115,107,105,112]⟩,Vi 2,Vi 2,Vi p.skip.op,Vi p.skip.k,Vi p.skip.n,.string p.skip.s,.string p.skip.nm,.slice Bu mu du]) 47 (fun _ _=>by kernel_rfl) (fun gh zb zH zc zj zq zhq zhe=>zW (i:=10) (k:=0) (f:=fun gh hh=>Cells hh (wJ (gh 10)) 0 [.string ⟨#[115,107,105,112]⟩,Vi 2,Vi 2,Vi p.skip.op,Vi p.skip.k,Vi p.skip.n,.string p.skip.s,.string p.skip.nm,.slice Bu mu du]) (by kernel_rfl) (by kernel_rfl) zc zj zq zhq zhe)) ?_
  refine And.intro (mX hT hA hmono ⟨fun _ _=>by kernel_rfl,fun _ _=>by kernel_rfl,fun _ _=>by kernel_rfl⟩ 22 [2,10] 11 0 (GN R 0) (fun gh=>.slice (sA (gh 2)) (sN (gh 2)) (sC (gh 2))) 23 47 9 (fun gh=>rows) (fun gh=>[[.string ⟨#[115,107,105,112]⟩,Vi 2,Vi 2,Vi p.skip.op,Vi p.skip.k,Vi p.skip.n,.string p.skip.s,.string p.skip.nm,.slice Bu mu du]]) (.tmp 13) (.tmp 21) (fun gh=>(wJ (gh 10))) 1 1 0 10 (fun gh hh=>Cells hh (wJ (gh 10)) 0 [.string ⟨#[115,107,105,112]⟩,Vi 2,Vi 2,Vi p.skip.op,Vi p.skip.k,Vi p.skip.n,.string p.skip.s,.string p.skip.nm,.slice Bu mu du]) (fun _ _ c=>c) Tryz.underlying23 (zv:=.agg #[Ve,Vi 0,Vi 0,Vi 0,Vi 0,Vi 0,Ve,Ve,Vz]) (bytes:=112) (fun _=>by constructor <;> omega)) ?_
  trivial
 rintro u13 b7 v22 W8 S9 ⟨f6,-⟩
 replace f6:Cells W8 b7 0 [.string ⟨#[115,107,105,112]⟩,Vi 2,Vi 2,Vi p.skip.op,Vi p.skip.k,Vi p.skip.n,.string p.skip.s,.string p.skip.nm,.slice Bu mu du]:=f6
 refine vQ f6 ?_
 refine go0 7 [.b 2 1] [] ?_
 have c10:=RS.cell hpr (hprow)
 refine vQ (c10.sees S9) ?_
 refine go0 7 [.ix b3 o4 m d t,.f 0 2] [] ?_ (ho:=(And.intro (by first | omega | (simp; omega)) (trivial)))
 by_cases g:p.skip.op=0
 ·rw [if_pos g] at hQ
  refine lV (t:=p.skip.op == 0) (beq_iff_eq.2 g) ?_
  refine go0 8 [] [] ?_
  refine hQ.to [.bool false,.bool true] (fun H sH=>?_)
  exact rfl
 ·skip
  rw [if_neg g] at hQ
  have hOne2:=fun v sk H q1 q3=>hOne g v sk H q1 q3
  generalize mK env p.skip=x at *
  have hlast:(rows++([[.string ⟨#[115,107,105,112]⟩,.int .i64 2,.int .i64 2,.int .i64 p.skip.op,.int .i64 p.skip.k,.int .i64 p.skip.n,.string p.skip.s,.string p.skip.nm,.slice Bu mu du]]:List (List Value)))[n]?=some [.string ⟨#[115,107,105,112]⟩,.int .i64 2,.int .i64 2,.int .i64 p.skip.op,.int .i64 p.skip.k,.int .i64 p.skip.n,.string p.skip.s,.string p.skip.nm,.slice Bu mu du]:=by rw [List.getElem?_append_right (by omega),hrl,Nat.sub_self]; rfl
  have hl1:(rows++([[.string ⟨#[115,107,105,112]⟩,.int .i64 2,.int .i64 2,.int .i64 p.skip.op,.int .i64 p.skip.k,.int .i64 p.skip.n,.string p.skip.s,.string p.skip.nm,.slice Bu mu du]]:List (List Value))).length=n + 1:=by simp [hrl]
  refine zQ [(1,.slice A1 n c1),(3,Vp b1),(8,Vp b2),(31,.bool (p.skip.op == 0))] [.row (.slice (sA v22) (sN v22) (sC v22)) 47 9 (rows++[[.string ⟨#[115,107,105,112]⟩,Vi 2,Vi 2,Vi p.skip.op,Vi p.skip.k,Vi p.skip.n,.string p.skip.s,.string p.skip.nm,.slice Bu mu du]]),.box b2 [.slice (sA v22) (sN v22) (sC v22),.slice (some ⟨b3,o4,none⟩) m d],.box b1 [.slice A n c,.slice (some ⟨b3,o4,none⟩) m d]] [(b3,o4 + t * 8,[.string p.name,.slice Au p.fields.length cu,Vi p.skip.op,Vi p.skip.k,Vi p.skip.n,.string p.skip.s,.string p.skip.nm,.slice Bu mu du]),(b7,0,[.string ⟨#[115,107,105,112]⟩,Vi 2,Vi 2,Vi p.skip.op,Vi p.skip.k,Vi p.skip.n,.string p.skip.s,.string p.skip.nm,.slice Bu mu du]),(b3,o4 + t * 8,[.string p.name,.slice Au p.fields.length cu,Vi p.skip.op,Vi p.skip.k,Vi p.skip.n,.string p.skip.s,.string p.skip.nm,.slice Bu mu du])] ?_
  refine xQ 0 (v:=.slice (sA v22) (sN v22) (sC v22)) (e:=47) (kk:=9) (l:=rows++[[.string ⟨#[115,107,105,112]⟩,Vi 2,Vi 2,Vi p.skip.op,Vi p.skip.k,Vi p.skip.n,.string p.skip.s,.string p.skip.nm,.slice Bu mu du]]) ?_; intro Ap cp hE_v22 hc_v22 hm_v22
  rw [show (rows++[[.string ⟨#[115,107,105,112]⟩,Vi 2,Vi 2,Vi p.skip.op,Vi p.skip.k,Vi p.skip.n,.string p.skip.s,.string p.skip.nm,.slice Bu mu du]]).length=(n + 1) from by first | omega | (simp; done) | (simp; omega)] at hE_v22 hc_v22
  rw [hE_v22]
  refine yQ 0 (v:=.slice Ap (n + 1) cp) (e:=47) (kk:=9) (l:=rows++[[.string ⟨#[115,107,105,112]⟩,Vi 2,Vi 2,Vi p.skip.op,Vi p.skip.k,Vi p.skip.n,.string p.skip.s,.string p.skip.nm,.slice Bu mu du]]) ?_; intro W11 S12 fr
  refine wQ (t:=p.skip.op == 0) (beq_eq_false_iff_ne.2 g) ?_
  refine go0 3 [] [] ?_
  obtain ⟨b13,o14,rfl,-,c15⟩:=RS.row fr (hlast)
  refine vQ (c15.sees (Sees.refl _)) ?_
  refine iV 14 1 [.pu,.ld 1 0,.pu,.ld 2 0,.pu,.v (fun gh=>.pointer (some ⟨b13,o14 + n * 9,none⟩)),.lf 0 0,.pu,.ld 2 0,.pu,.f (fun gh=>.slice (sA (gh 10)) (sN (gh 10)) (sC (gh 10))) (fun gh hh=>RS hh 7 (.slice (sA (gh 10)) (sN (gh 10)) (sC (gh 10))) (yK env)),.v (fun gh=>.agg #[Vi x.k,Vi x.n,.string x.s]),.al 0,.st 0 0] [(10,false),(12,true)] (And.intro (fun _ _ _ s c=>c.sees s) (trivial)) ?_ ?_
  ·intro R hT hA hmono
   refine And.intro (oY hT hA b13 o14 (n + 1) cp n (fun gh=>.pointer (some ⟨b13,o14 + n * 9,none⟩)) (by first | omega | (simp; omega))) ?_
   refine And.intro (r_call hT hA hmono ⟨fun _ _=>by kernel_rfl,fun _ _=>by kernel_rfl,fun _ _=>by kernel_rfl⟩ 42 (fun u=>.slice (sA u) (sN u) (sC u)) [8,9] 10 (by kernel_rfl) (by kernel_rfl) (fun _=>by kernel_rfl) 57 (fun gh=>#[.slice A n c,.slice A1 n c1]) (fun _ _=>by kernel_rfl) (fun gh H sH fH lent=>C0.facts (R:=R) (x:=gh) (i:=10) (n:=0) (F:=(fun u=>.slice (sA u) (sN u) (sC u))) (G:=fun u hh=>RS hh 7 (.slice (sA u) (sN u) (sC u)) (yK env)) (f:=fun gh hh=>RS hh 7 (.slice (sA (gh 10)) (sN (gh 10)) (sC (gh 10))) (yK env)) (hFa _ _ _ ((hf.sees (S9.trans (S12.trans sH)))).fields (hv.sees (S9.trans (S12.trans sH)))) (by kernel_rfl) (by kernel_rfl) (fun _ _ r=>r))) ?_
   refine And.intro (t_v hT hA hmono (k:=56) (args:=(fun gh=>#[.agg #[.string ⟨#[115,107,105,112]⟩,Vi 2,Vi 2,Vi p.skip.op,Vi p.skip.k,Vi p.skip.n,.string p.skip.s,.string p.skip.nm,.slice Bu mu du],Vz,Vz,.slice (sA (gh 10)) (sN (gh 10)) (sC (gh 10))])) (f:=fun gh=>.agg #[Vi x.k,Vi x.n,.string x.s]) (fun gh H sH fH lent=>hOne2 _ _ _ (harg.sees (S9.trans (S12.trans sH))) (fH 0 _ rfl (by kernel_rfl)))) ?_
   trivial
  rintro u42 b16 W17 S18 ⟨f42,-⟩
  replace f42:RS W17 7 (.slice (sA u42) (sN u42) (sC u42)) (yK env):=f42
  refine go0 2 [] [] ?_
  refine iV 8 0 [.pu,.ld 0 1,.pu,.pu,.ld 0 0,.pu,.pu,.pu] [] (trivial) ?_ ?_
  ·intros; trivial
  rintro W19 S20 -
  refine go0 2 [] [] ?_
  refine hQ.to [.bool (x.n == 1),.bool (x.k == 2)] (fun H sH=>?_)
  exact rfl
end Go.Proofs.YtjpgjnldeafpkaaGreat
