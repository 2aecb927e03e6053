/-
  For all raw things NavGoes returns true: Next goes to the next page that is not skipped, if all fields of the current page are known. No condition.
-/
import Derived.Test.YtjpgjnldeafpkaaGreatZA9
import Derived.Test.YtjpgjnldeafpkaaGreatZA49
import Derived.Test.YtjpgjnldeafpkaaGreatZA43
import Derived.Test.YtjpgjnldeafpkaaGreatZA37
import Derived.Test.YtjpgjnldeafpkaaGreatZA51
set_option maxRecDepth 100000
namespace Go.Proofs.YtjpgjnldeafpkaaGreat
open Go.RowKit
set_option linter.unusedVariables false
theorem find1_nav (f:Fd) (A:Option Addr) (n c:Nat) (s:ByteArray) (b:Nat) (h:Vw) (hc:Cells h b 0 [.string s]) :
  C0 Tryz.prog 17 #[.agg #[.string f.name,.int .i64 f.kind,.int .i64 f.ty,.int .i64 f.src.op,.int .i64 f.src.k,.int .i64 f.src.n,.string f.src.s,.string f.src.nm,.slice A n c],.pointer (some ⟨b,0,none⟩)] h (fun r _=>r=.bool (f.name.toList == s.toList)):=by
 refine uQ Tryz.func17 (c:=Tryz.f17.body.getD .skip) (N:=8) ?_
 intro hbx hbad Q hQ
 refine vQ (hc.sees (Sees.refl _)) ?_
 refine go1 16 [.own,.b 0 0,.f 0 0] [] ?_
 intro b1
 refine hQ.to [.bool (f.name.toList == s.toList)] (fun H sH=>?_)
 exact rfl
theorem idxF_nav (fs:List Fd) (vs:List Value) (A:Option Addr) (cap:Nat) (s:ByteArray) (b:Nat) (h:Vw) (hr:RS h 9 (.slice A fs.length cap) (zK fs vs)) (hl:fs.length≤1000000) (hvl:vs.length=fs.length) (hsl:∀ u∈vs,.slice (sA u) (sN u) (sC u)=u) (hc:Cells h b 0 [.string s]) :
  C0 Tryz.prog 16 #[.slice A fs.length cap,.func (.func 17) #[] #[.pointer (some ⟨b,0,none⟩)]] h (fun r _=>r=.int .i64 (fQ fs s)):=by
 generalize hL:fs.length=len at *
 refine uQ Tryz.func16 (c:=Tryz.f16.body.getD .skip) (N:=19) ?_
 intro hbx hbad Q hQ
 refine go0 14 [] [] ?_
 refine cV [0,1,0,1] [.block 0,.seq [1,1]] (fun (k:Nat) X=>∃ (W1:Vw) ,X W1 [(0,.slice A len cap),(1,.func (.func 17) #[] #[Vp b]),(7,Vi (len:Int)),(8,Vi (k:Int))] [] []∧Sees h W1∧(k≤len)∧(∀ y∈fs.take k,(y.name.toList == s.toList)=false)) (fun k=>len - k) (0) (fun X q=>⟨h,q _ _ _ _ ⟨rfl,by kernel_rfl⟩,Sees.refl _,Nat.zero_le _,fun y hy=>by simp at hy⟩) ?_
 rintro k a w ⟨W1,hJ,S2,hk,hn⟩; refine gV hJ ?_; clear hJ a w
 refine go0 6 [] [] ?_
 rcases (by omega:k < len∨k=len) with hlt | hke
 ·obtain ⟨f,hfk⟩:∃ f,fs[k]?=some f:=⟨_,List.getElem?_eq_getElem (by omega)⟩
  obtain ⟨u,huk⟩:∃ u,vs[k]?=some u:=⟨_,List.getElem?_eq_getElem (by omega)⟩
  have hrow:(zK fs vs)[k]?=some (fdRow f (.slice (sA u) (sN u) (sC u))):=by rw [hsl u (List.mem_of_getElem? huk)]; exact aQ hfk huk
  refine lV (t:=decide ((k:Int) < (len:Int))) (decide_eq_true (by omega)) ?_
  refine go0 15 [] [] ?_
  obtain ⟨b3,o4,rfl,-,c5⟩:=RS.row hr (hrow)
  refine vQ (c5.sees S2) ?_
  refine go0 5 [.ix b3 o4 len cap k,.f 0 0,.cl 17 #[.agg #[.string f.name,Vi f.kind,Vi f.ty,Vi f.src.op,Vi f.src.k,Vi f.src.n,.string f.src.s,.string f.src.nm,.slice (sA u) (sN u) (sC u)],Vp b] (.bool (f.name.toList == s.toList))] [] ?_ (ho:=(And.intro (by first | omega | (simp; omega)) (And.intro (fun H sH=>find1_nav f _ _ _ s b _ (hc.sees (S2.trans sH))) (trivial))))
  cases boolIs (f.name.toList == s.toList) with
  | true hq =>
   refine lV (t:=f.name.toList == s.toList) (hq) ?_
   refine go0 9 [] [] ?_
   refine aV ?_
   refine go0 2 [] [] ?_
   refine hQ.to [Vi (k:Int)] (fun H sH=>?_)
   exact congrArg (Value.int .i64) (dQ _ fs k f hn hfk hq).symm
  | false hq =>
   refine wQ (t:=f.name.toList == s.toList) (hq) ?_
   refine go0 7 [] [(18,Vi (IntKind.i64.wrap ((k:Int) + 1)),Vi ((k:Int) + 1))] ?_ (hc:=(And.intro (jJ (by omega) (by omega)) (trivial)))
   exact kV (k + 1) (fun X q=>⟨W1,q _ _ _ _ ⟨rfl,by kernel_rfl⟩,S2,by omega,(by rw [pY fs k f hfk]; exact fun y hy=>(List.mem_append.1 hy).elim (hn y) (fun e=>by rw [List.mem_singleton.1 e]; exact hq))⟩) (by omega)
 ·skip
  have htk:fs.take k=fs:=by rw [hke,← hL,List.take_length]
  rw [htk] at hn
  refine wQ (t:=decide ((k:Int) < (len:Int))) (decide_eq_false (by omega)) ?_
  refine go0 2 [] [] ?_
  refine aV ?_
  refine go0 8 [] [] ?_
  refine hQ.to [Vi (-1)] (fun H sH=>?_)
  exact congrArg (Value.int .i64) (eQ _ fs hn).symm
theorem pathOk_one (m:Nat):PathOk ([]++[((0:Nat):Int)]) m:=⟨List.pairwise_singleton _ _,fun x hx=>by have:=List.mem_singleton.1 hx; omega,fun x hx=>by have:=List.mem_singleton.1 hx; omega⟩
theorem PathOk.snoc {l:List Int} {m:Nat} {t a:Nat} (h:PathOk (l++[(t:Int)]) m) (hta:t < a) (ham:a≤m):PathOk ((l++[(t:Int)])++[(a:Int)]) m:=by
 refine ⟨List.pairwise_append.2 ⟨h.rise,List.pairwise_singleton _ _,fun x hx y hy=>?_⟩,fun x hx=>?_,fun x hx=>?_⟩
 ·rw [List.mem_singleton.1 hy]
  rcases List.mem_append.1 hx with q | q
  ·have:=(List.pairwise_append.1 h.rise).2.2 x q (t:Int) (by simp)
   omega
  ·rw [List.mem_singleton.1 q]; omega
 ·rcases List.mem_append.1 hx with q | q
  ·exact h.lo x q
  ·rw [List.mem_singleton.1 q]; omega
 ·rcases List.mem_append.1 hx with q | q
  ·exact h.hi x q
  ·rw [List.mem_singleton.1 q]; omega
def smallV:List Vl:=[⟨1,1,⟨#[]⟩⟩,⟨1,0,⟨#[]⟩⟩,⟨4,0,⟨#[]⟩⟩]
def agI (i:Nat):Value→Value
 | .agg vs=>vs.getD i undef
 | _=>undef
def SmallAt (h:Vw) (u:Value):Prop:=IsForm h (.slice (sA (agI 0 u)) (sN (agI 0 u)) (sC (agI 0 u))) (.slice (sA (agI 1 u)) (sN (agI 1 u)) (sC (agI 1 u))) smallF
theorem SmallAt.sees {h h':Vw} {u:Value} (k:SmallAt h u) (s:Sees h h'):SmallAt h' u:=IsForm.sees k s
theorem small_at (h:Vw):C0 Tryz.prog 15 #[] h (fun v h'=>∃ u,v=.agg #[.slice (sA (agI 0 u)) (sN (agI 0 u)) (sC (agI 0 u)),.slice (sA (agI 1 u)) (sN (agI 1 u)) (sC (agI 1 u))]∧SmallAt h' u):=(small_any h).mono fun v h' _=>by
 rintro ⟨A,c,B,d,rfl,hf⟩
 exact ⟨.agg #[.slice A 3 c,.slice B 2 d],rfl,hf⟩
theorem small_next (u:Value) (b:Nat) (h:Vw) (hf:SmallAt h u) (hc:Cells h b 0 [.int .i64 1,.int .i64 1,.string ⟨#[]⟩,.int .i64 1,.int .i64 0,.string ⟨#[]⟩,.int .i64 4,.int .i64 0,.string ⟨#[]⟩]) :
  C0 Tryz.prog 14 #[.agg #[.slice (sA (agI 0 u)) (sN (agI 0 u)) (sC (agI 0 u)),.slice (sA (agI 1 u)) (sN (agI 1 u)) (sC (agI 1 u))],.slice (some ⟨b,0,none⟩) 3 3,.agg #[.int .i64 0,.slice none 0 0,.bool false]] h (fun r h'=>∃ u,r=.tuple #[.agg #[.int .i64 1,.slice (sA u) (sN u) (sC u),.bool false],.int .i64 0]∧RS h' 1 (.slice (sA u) (sN u) (sC u)) (uX [0])):=by
 unfold SmallAt at hf
 obtain ⟨vs,A,c,e,-,-,-,-,-,-⟩:=cQ hf.fields
 obtain ⟨us,ws,B,d,e2,-,-,-,-,-,-⟩:=pgs_open hf.pages
 have e:(.slice (sA (agI 0 u)) (sN (agI 0 u)) (sC (agI 0 u)):Value)=.slice A 3 c:=e
 have e2:(.slice (sA (agI 1 u)) (sN (agI 1 u)) (sC (agI 1 u)):Value)=.slice B 2 d:=e2
 rw [e,e2] at hf ⊢
 have hv:RS h 3 (.slice (some ⟨b,0,none⟩) 3 3) (sY smallV):=xX (k:=3) (sY smallV) (fun r hr=>by obtain ⟨x,-,rfl⟩:=List.mem_map.1 hr; rfl) (by decide) hc
 have hok:OkFm smallF _ _:=⟨small_ok,small_okG,small_ranked⟩
 have hx:=next_x smallF _ _ A 3 c B 2 d smallV (some ⟨b,0,none⟩) 3 [] none 0 0 h hok hf rfl rfl hv rfl (fun x hx=>by
  simp only [smallV,List.mem_cons,List.not_mem_nil,or_false] at hx
  rcases hx with rfl | rfl | rfl
  ·exact .inl (Or.inl ⟨rfl,⟨by decide,by decide⟩,rfl⟩)
  ·exact .inl (Or.inl ⟨rfl,⟨by decide,by decide⟩,rfl⟩)
  ·exact .inr (.inl rfl)) (RS.nil h 1) (by simp) (pathOk_one 2)
 refine hx.mono fun r h' _=>?_
 have hl:xV smallF.fields smallV [⟨#[97]⟩]=[]:=by
  have hfa:fQ smallF.fields ⟨#[97]⟩=1:=gQ (fs:=smallF.fields) (by decide) (i:=1) rfl
  unfold xV
  rw [List.filter_cons_of_neg (by rw [hfa]; decide)]; rfl
 have hp1:passAt smallF.pages (fcs smallF.fields smallV) 1=(false,true):=by
  rw [passAt_eq (p:=⟨⟨#[112,50]⟩,[⟨#[99]⟩],zE⟩) rfl]; rfl
 rintro (⟨q,-⟩ | ⟨p,hp,⟨a,u,rfl,-,h1,h2,h3,h4,-⟩ | ⟨-,q⟩⟩)
 ·omega
 ·have ha:a=1:=by
   rcases (by omega:a=1∨a=2) with q | q
   ·exact q
   ·have:=h4 1 (by omega) (by omega)
    rw [hp1] at this; cases this
  subst ha
  exact ⟨u,rfl,h3⟩
 ·obtain rfl:p=⟨⟨#[112,49]⟩,[⟨#[97]⟩],zE⟩:=(Option.some.inj hp).symm
  rcases q with q | ⟨k,k1,k2,-,k3⟩
  ·exact absurd hl q
  ·obtain rfl:k=1:=by omega
   rw [hp1] at k3; cases k3
theorem next_y {m:Nat} {path:List Int} {t:Nat} {pass:Nat→Bool × Bool} {ln:List ByteArray} {r:Value} {h:Vw} (k:NextX m path t pass ln r h):∃ (e:Int) (a:Nat) (u:Value) (b:Bool),r=.tuple #[.agg #[.int .i64 (a:Int),.slice (sA u) (sN u) (sC u),.bool b],.int .i64 e] ∧
  ((e=0∧b=((a:Int) == (m:Int))∧ln=[]∧t < a∧a≤m∧RS h 1 (.slice (sA u) (sN u) (sC u)) (uX (path++[(t:Int)]))∧(∀ j,t < j→j < a→pass j=(true,true))∧(a < m→pass a=(false,true))) ∨
  (e=11∧(ln≠[]∨∃ k,t < k∧k < m∧(∀ j,t < j→j < k→pass j=(true,true))∧(pass k).2=false))):=by
 rcases k with ⟨a,u,rfl,h1,h2,h3,h4,h5,h6⟩ | ⟨rfl,h1⟩
 ·exact ⟨0,a,u,_,rfl,.inl ⟨rfl,rfl,h1,h2,h3,h4,h5,h6⟩⟩
 ·exact ⟨11,0,.slice none 0 0,false,rfl,.inr ⟨rfl,h1⟩⟩
theorem next_at {m:Nat} {path:List Int} {t:Nat} {pass:Nat→Bool × Bool} {L:Pg→List ByteArray} {ps:List Pg} {p:Pg} {r X:Value} {h:Vw} (q:(t=m∧r=X)∨∃ p,ps[t]?=some p∧NextX m path t pass (L p) r h) (hp:ps[t]?=some p) (ht:t < m):NextX m path t pass (L p) r h:=by
 rcases q with ⟨q,-⟩ | ⟨p',q1,q2⟩
 ·omega
 ·rw [hp] at q1
  obtain rfl:=Option.some.inj q1
  exact q2
set_option maxHeartbeats 8000000 in
theorem navGoes_c (l m:List RawD) (sl sm:Value) (h:Vw) (hl:RS h 4 sl (l.map RawD.cs)) (hm:RS h 4 sm (m.map RawD.cs)) (ll:l.length * 40≤reachBytes) (lm:m.length * 40≤reachBytes) (ol:∀ r∈l,r.ok) (om:∀ r∈m,r.ok) :
  C0 Tryz.prog 3 #[sl,sm] h (fun v _=>v=.bool true):=by
 have hFi:=fun H q1 q2=>filled_any l m sl sm H q1 q2 ll lm ol om
 have hok:=form_okFm l
 obtain ⟨hS,ov⟩:=allF_sol l m (orcF_ok l m).has
 have la:=hS.len
 have m1:=hok.pages.one
 have mf:=hok.pages.few
 have few:=hok.fields.few
 have hNx:=fun A c B d A1 c1 path A2 c2 t H q1 q2 q3 q4 q5=>next_x (kQ l) _ _ A _ c B _ d (allF l m (orcF l m)) A1 c1 path A2 c2 t H hok q1 rfl rfl q2 la ov q3 q4 q5
 have hNt:=fun A c B d A1 c1 path A2 c2 t H q1 q2 q3 q4 q5 p hpt htm=>(hNx A c B d A1 c1 path A2 c2 t H q1 q2 q3 q4 q5).mono fun r h' _ q=>next_y (next_at (p:=p) (L:=fun p=>xV (kQ l).fields (allF l m (orcF l m)) p.fields) q hpt htm)
 have hPa:=fun A c B d A1 c1 t p H q1 q2 q3=>passes_any (kQ l) A _ c B _ d (allF l m (orcF l m)) A1 c1 t p H hok.pages few q1 rfl rfl q2 la ov q3
 have hgs:=hok.pages
 have hfl:=hgs.fl
 have hhere:=hgs.here
 clear hS
 generalize allF l m (orcF l m)=va at *
 clear hok
 generalize kQ l=fm at *
 generalize hN:fm.fields.length=N at *
 generalize hM:fm.pages.length=M at *
 have hpa:∀ t p,fm.pages[t]?=some p→passAt fm.pages (fcs fm.fields va) t=((passB p (fcs fm.fields va)).1,(passB p (fcs fm.fields va)).2):=fun t p q=>passAt_eq q
 generalize fcs fm.fields va=env at *
 obtain ⟨A0,c0,rfl,-,-,-⟩:=hl.form
 obtain ⟨A1,c1,rfl,-,-,-⟩:=hm.form
 rw [List.length_map] at *
 rw [List.length_map] at *
 refine uQ Tryz.func3 (c:=Tryz.f3.body.getD .skip) (N:=208) ?_
 intro hbx hbad Q hQ
 refine go0 9 [] [] ?_
 refine pQ (fun H sH=>hFi _ (hl.sees sH) (hm.sees sH)) ?_; rintro _ W1 S2 ⟨A,c,B,d,A2,c2,rfl,hfm,hva⟩
 refine go2 19 [.own,.b 0 0,.own,.b 0 0] [] ?_
 intro b3 bw
 refine iV 13 1 [.f (fun gh=>.agg #[.slice (sA (agI 0 (gh 0))) (sN (agI 0 (gh 0))) (sC (agI 0 (gh 0))),.slice (sA (agI 1 (gh 0))) (sN (agI 1 (gh 0))) (sC (agI 1 (gh 0)))]) (fun gh hh=>SmallAt hh (gh 0)),.pu,.pu,.pu,.f (fun gh=>.slice (some ⟨(wJ (gh 4)),0,none⟩) 3 3) (fun gh hh=>Cells hh (wJ (gh 4)) 0 [Vi 1,Vi 1,Ve,Vi 1,Vi 0,Ve,Vi 4,Vi 0,Ve]),.ld 1 0,.f (fun gh=>.tuple #[.agg #[Vi 1,.slice (sA (gh 6)) (sN (gh 6)) (sC (gh 6)),.bool false],Vi 0]) (fun gh hh=>RS hh 1 (.slice (sA (gh 6)) (sN (gh 6)) (sC (gh 6))) (uX [0])),.pu,.pu,.pu,.al 0,.st 0 0,.pu] [(0,false),(4,true),(6,false),(10,true)] (And.intro (fun _ _ _ s c=>c.sees s) (And.intro (fun _ _ _ s c=>c.sees s) (And.intro (fun _ _ _ s c=>c.sees s) (trivial)))) ?_ ?_
 ·intro R hT hA hmono
  refine And.intro (r_call hT hA hmono ⟨fun _ _=>by kernel_rfl,fun _ _=>by kernel_rfl,fun _ _=>by kernel_rfl⟩ 35 (fun u=>.agg #[.slice (sA (agI 0 u)) (sN (agI 0 u)) (sC (agI 0 u)),.slice (sA (agI 1 u)) (sN (agI 1 u)) (sC (agI 1 u))]) [] 0 (by kernel_rfl) (by kernel_rfl) (fun _=>by kernel_rfl) 15 (fun gh=>#[]) (fun _ _=>by kernel_rfl) (fun gh H sH fH lent=>C0.facts (R:=R) (x:=gh) (i:=0) (n:=0) (F:=(fun u=>.agg #[.slice (sA (agI 0 u)) (sN (agI 0 u)) (sC (agI 0 u)),.slice (sA (agI 1 u)) (sN (agI 1 u)) (sC (agI 1 u))])) (G:=fun u hh=>SmallAt hh u) (f:=fun gh hh=>SmallAt hh (gh 0)) (small_at _) (by kernel_rfl) (by kernel_rfl) (fun _ _ r=>r))) ?_
  refine And.intro (r_fact hT hA hmono ⟨fun _ _=>by kernel_rfl,fun _ _=>by kernel_rfl,fun _ _=>by kernel_rfl⟩ 39 (fun g=>Vs g 3 3) [1,2,3] 4 (by kernel_rfl) (by kernel_rfl) (fun _=>by kernel_rfl) (fun gh=>[Vi 1,Vi 1,Ve,Vi 1,Vi 0,Ve,Vi 4,Vi 0,Ve]) 38 (fun _ _=>by kernel_rfl) (fun gh zb zH zc zj zq zhq zhe=>zW (i:=4) (k:=1) (f:=fun gh hh=>Cells hh (wJ (gh 4)) 0 [Vi 1,Vi 1,Ve,Vi 1,Vi 0,Ve,Vi 4,Vi 0,Ve]) (by kernel_rfl) (by kernel_rfl) zc zj zq zhq zhe)) ?_
  refine And.intro (r_call hT hA hmono ⟨fun _ _=>by kernel_rfl,fun _ _=>by kernel_rfl,fun _ _=>by kernel_rfl⟩ 41 (fun u=>.tuple #[.agg #[Vi 1,.slice (sA u) (sN u) (sC u),.bool false],Vi 0]) [0,4,5] 6 (by kernel_rfl) (by kernel_rfl) (fun _=>by kernel_rfl) 14 (fun gh=>#[.agg #[.slice (sA (agI 0 (gh 0))) (sN (agI 0 (gh 0))) (sC (agI 0 (gh 0))),.slice (sA (agI 1 (gh 0))) (sN (agI 1 (gh 0))) (sC (agI 1 (gh 0)))],.slice (some ⟨(wJ (gh 4)),0,none⟩) 3 3,.agg #[Vi 0,Vz,.bool false]]) (fun _ _=>by kernel_rfl) (fun gh H sH fH lent=>C0.facts (R:=R) (x:=gh) (i:=6) (n:=2) (F:=(fun u=>.tuple #[.agg #[Vi 1,.slice (sA u) (sN u) (sC u),.bool false],Vi 0])) (G:=fun u hh=>RS hh 1 (.slice (sA u) (sN u) (sC u)) (uX [0])) (f:=fun gh hh=>RS hh 1 (.slice (sA (gh 6)) (sN (gh 6)) (sC (gh 6))) (uX [0])) (small_next _ _ _ (fH 0 _ rfl (by kernel_rfl)) (fH 1 _ rfl (by kernel_rfl))) (by kernel_rfl) (by kernel_rfl) (fun _ _ r=>r))) ?_
  trivial
 rintro u35 b5 u41 b6 W7 S8 ⟨f35,f4,f41,-⟩
 replace f35:SmallAt W7 u35:=f35
 replace f4:Cells W7 b5 0 [Vi 1,Vi 1,Ve,Vi 1,Vi 0,Ve,Vi 4,Vi 0,Ve]:=f4
 replace f41:RS W7 1 (.slice (sA u41) (sN u41) (sC u41)) (uX [0]):=f41
 refine vQ f4 ?_
 refine go0 30 [.b 0 0,.b 2 1] [(58,Vi (IntKind.i64.wrap ((M:Int) + 1)),Vi ((M:Int) + 1))] ?_ (hc:=(And.intro (jJ (by omega) (by omega)) (trivial)))
 obtain ⟨us,ws,B3,d3,e3,-,hpr,hps,hpg,-,-⟩:=pgs_open hfm.pages
 simp only [Value.slice.injEq] at e3
 obtain ⟨rfl,-,rfl⟩:=e3
 rw [hM] at hpr
 obtain ⟨vs,A3,c3,e4,-,-,hr3,hs3,hl3,hsl⟩:=cQ hfm.fields
 simp only [Value.slice.injEq] at e4
 obtain ⟨rfl,-,rfl⟩:=e4
 have hIx:=fun s b H q1 q2=>idxF_nav fm.fields vs A c s b H q1 (by omega) hl3 hsl q2
 rw [hN] at hr3 hIx
 have hz:(((0:Nat):Int) == (M:Int))=false:=beq_eq_false_iff_ne.2 (by omega)
 refine cV [0,1,0,1,1,1,1] [.block 0,.seq [1,1,1,1,1]] (fun (k:Nat) X=>∃ (W9:Vw) (t:Nat) (path:List Int) (A7:Option Addr) (c7:Nat),X W9 [(5,Vp b3),(6,.slice A2 N c2),(8,Vp bw),(58,Vi ((M:Int) + 1)),(59,Vi (k:Int))] [.box b6 [Vi 1,.slice (sA u41) (sN u41) (sC u41),.bool false],.box bw [Vi (t:Int),.slice A7 path.length c7,.bool false],.box b3 [.slice A N c,.slice B M d]] [(b5,0,[Vi 1,Vi 1,Ve,Vi 1,Vi 0,Ve,Vi 4,Vi 0,Ve])]∧Sees W7 W9∧(k≤t)∧(t < M)∧(path.length=k)∧(RS W9 1 (.slice A7 path.length c7) (uX path))∧(PathOk (path++[(t:Int)]) M)) (fun k=>M + 1 - k) (0) (fun X q=>⟨W7,0,[],none,0,q _ _ _ _ ⟨rfl,by kernel_rfl⟩,Sees.refl _,Nat.le_refl _,by omega,rfl,RS.nil _ 1,pathOk_one M⟩) ?_
 rintro k a w ⟨W9,t,path,A7,c7,hJ,S10,hk,htM,hlp,hp,pk⟩; refine gV hJ ?_; clear hJ a w
 refine go0 6 [] [] ?_
 obtain ⟨p,hpt⟩:∃ p,fm.pages[t]?=some p:=⟨_,List.getElem?_eq_getElem (by omega)⟩
 obtain ⟨Au,cu,Bu,mu,du,hprow,hrs,harg⟩:=pg_at hps hpg hpt
 have hpl:=hfl p (List.mem_of_getElem? hpt)
 have hph:=hhere p (List.mem_of_getElem? hpt)
 have hNs:=fun H q1 q2 q3=>hNt A c B d A2 c2 path A7 c7 t H q1 q2 q3 (by omega) pk p hpt htM
 have hNe:=fun H a9 A9 c9 pth q1 q2 q3 q4 q5=>hNx A c B d A2 c2 pth A9 c9 a9 H q1 q2 q3 q4 q5
 have hPs:=fun t p H q1 q2 q3=>hPa A c B d A2 c2 t p H q1 q2 q3
 have hpas:=fun j p (q:fm.pages[j]?=some p)=>hpa j p q
 have hfz:((t:Int) == (M:Int))=false:=beq_eq_false_iff_ne.2 (by omega)
 rw [hfz] at hNs
 refine lV (t:=decide ((k:Int) < ((M:Int) + 1))) (decide_eq_true (by omega)) ?_
 refine go0 16 [.b 2 1,.b 1 0] [] ?_
 obtain ⟨b11,o12,rfl,-,c13⟩:=RS.row hpr (hprow)
 refine vQ (c13.sees (S8.trans S10)) ?_
 refine go0 8 [.ix b11 o12 M d t,.f 0 1] [] ?_ (ho:=(And.intro (by first | omega | (simp; omega)) (trivial)))
 refine cV [0,1,0,1,0,0,1,1,0,0,1,0,1,1,1,1] [.block 2,.seq [1,1,0,0,1,1,0,0,1,0,1,1,1,1],.block 1,.seq [1,1,1,0,0,1,0,1,1,1,1]] (fun (j:Nat) X=>∃ (W14:Vw) (lk:Bool),X W14 [(5,Vp b3),(6,.slice A2 N c2),(8,Vp bw),(58,Vi ((M:Int) + 1)),(59,Vi (k:Int)),(67,.slice Au p.fields.length cu),(68,Vi (p.fields.length:Int)),(69,Vi (j:Int)),(11,.bool lk)] [.box b6 [Vi 1,.slice (sA u41) (sN u41) (sC u41),.bool false],.box bw [Vi (t:Int),.slice A7 path.length c7,.bool false],.box b3 [.slice A N c,.slice (some ⟨b11,o12,none⟩) M d]] [(b11,o12 + t * 8,[.string p.name,.slice Au p.fields.length cu,Vi p.skip.op,Vi p.skip.k,Vi p.skip.n,.string p.skip.s,.string p.skip.nm,.slice Bu mu du]),(b5,0,[Vi 1,Vi 1,Ve,Vi 1,Vi 0,Ve,Vi 4,Vi 0,Ve])]∧Sees W9 W14∧(j≤p.fields.length)∧(lk = !(xV fm.fields va (p.fields.take j)).isEmpty)) (fun j=>p.fields.length - j) (0) (fun X q=>⟨W9,false,q _ _ _ _ ⟨rfl,by kernel_rfl⟩,Sees.refl _,Nat.zero_le _,rfl⟩) ?_
 rintro j a w ⟨W14,lk,hJ,S15,hj,hlk⟩; refine gV hJ ?_; clear hJ a w
 refine go0 6 [] [] ?_
 rcases (by omega:j < p.fields.length∨j=p.fields.length) with hlt | hke
 ·obtain ⟨s,hs⟩:∃ s,p.fields[j]?=some s:=⟨_,List.getElem?_eq_getElem hlt⟩
  have hsrow:(nY p.fields)[j]?=some [.string s]:=str_row hs
  obtain ⟨i,hi⟩:∃ i:Nat,fQ fm.fields s=(i:Int):=⟨(fQ fm.fields s).toNat,by have:=hph s (List.mem_of_getElem? hs); omega⟩
  have hiN:i < va.length:=by
   have h0:=hph s (List.mem_of_getElem? hs)
   rcases findF_lt fm.fields s with q | ⟨i',f',q1,q2,-⟩
   ·omega
   ·have:=(List.getElem?_eq_some_iff.1 q2).1
    omega
  obtain ⟨x,hx⟩:∃ x,va[i]?=some x:=⟨_,List.getElem?_eq_getElem hiN⟩
  have hxr:=vlRows_get hx
  have hkn:=fun H=>known_dec x (ov x (List.mem_of_getElem? hx)) H
  have hsn:xV fm.fields va (p.fields.take (j + 1))=xV fm.fields va (p.fields.take j)++if x.k≤3 then [] else [s]:=by
   rw [pY p.fields j s hs,lackN_snoc,hi]
   show xV fm.fields va _++(if (va.getD i zV).k≤3 then _ else _)=_
   rw [List.getD_eq_getElem?_getD,hx]; rfl
  have hIs:=fun b H q1 q2=>hIx s b H q1 q2
  rw [hi] at hIs
  refine lV (t:=decide ((j:Int) < (p.fields.length:Int))) (decide_eq_true (by omega)) ?_
  refine go0 6 [] [] ?_
  obtain ⟨b16,o17,rfl,-,c18⟩:=RS.row hrs (hsrow)
  refine vQ (c18.sees (S8.trans (S10.trans S15))) ?_
  refine go1 11 [.ix b16 o17 p.fields.length cu j,.f 0 0,.own,.b 0 0,.b 3 0] [] ?_ (ho:=(And.intro (by first | omega | (simp; omega)) (trivial)))
  intro bs
  rcases Bool.eq_false_or_eq_true lk with hk1 | hk1
  ·subst hk1
   refine g_callq (fun a w hJ=>hIs _ _ (hr3.sees (S8.trans (S10.trans (S15.trans hJ.j.seesQ)))) (hJ.j.boxQ (b:=bs) (cs:=[.string s]) 0 (by kernel_rfl))) ?_; intro W19 S20
   refine go0 21 [] [(86,Vi (IntKind.i64.wrap ((j:Int) + 1)),Vi ((j:Int) + 1))] ?_ (hc:=(And.intro (jJ (by omega) (by omega)) (trivial)))
   exact kV (j + 1) (fun X q=>⟨W19,true,q _ _ _ _ ⟨rfl,by kernel_rfl⟩,(S15.trans S20),by omega,(by rw [hsn]; have:=hlk; cases hq:xV fm.fields va (p.fields.take j) with | nil=>rw [hq] at this; cases this | cons y ys=>rfl)⟩) (by omega)
  ·skip
   subst hk1
   have hl0:xV fm.fields va (p.fields.take j)=[]:=by
    cases hq:xV fm.fields va (p.fields.take j) with
    | nil=>rfl
    | cons y ys=>rw [hq] at hlk; cases hlk
   rw [hl0] at hsn
   refine g_callq (fun a w hJ=>hIs _ _ (hr3.sees (S8.trans (S10.trans (S15.trans hJ.j.seesQ)))) (hJ.j.boxQ (b:=bs) (cs:=[.string s]) 0 (by kernel_rfl))) ?_; intro W21 S22
   refine go0 8 [] [] ?_
   obtain ⟨b23,o24,rfl,-,c25⟩:=RS.row hva (hxr)
   refine vQ (c25.sees (S8.trans (S10.trans (S15.trans S22)))) ?_
   refine go0 13 [.ix b23 o24 N c2 i,.f 0 0,.cl 18 #[.agg #[Vi x.k,Vi x.n,.string x.s]] (.bool (decide (x.k≤3)))] [(86,Vi (IntKind.i64.wrap ((j:Int) + 1)),Vi ((j:Int) + 1))] ?_ (ho:=(And.intro (by first | omega | (simp; omega)) (And.intro (fun H sH=>hkn _) (trivial)))) (hc:=(And.intro (jJ (by omega) (by omega)) (trivial)))
   exact kV (j + 1) (fun X q=>⟨W21,(!decide (x.k≤3)),q _ _ _ _ ⟨rfl,by kernel_rfl⟩,(S15.trans S22),by omega,(by rw [hsn]; by_cases q:x.k≤3; rw [if_pos q,decide_eq_true q]; rfl; rw [if_neg q,decide_eq_false q]; rfl)⟩) (by omega)
 ·skip
  have htk:p.fields.take j=p.fields:=by rw [hke,List.take_length]
  rw [htk] at hlk
  generalize passAt fm.pages env=pass at *
  refine wQ (t:=decide ((j:Int) < (p.fields.length:Int))) (decide_eq_false (by omega)) ?_
  refine go0 2 [] [] ?_
  refine aV ?_
  refine go0 7 [.b 2 0,.b 1 0] [] ?_
  refine pQ (fun H sH=>hNs _ (hfm.sees (S8.trans (S10.trans (S15.trans sH)))) (hva.sees (S8.trans (S10.trans (S15.trans sH)))) (hp.sees (S15.trans sH))) ?_; rintro _ W26 S27 ⟨eqn,aq,uqn,bqn,rfl,hnx⟩
  refine go1 15 [.own,.b 0 0] [] ?_
  intro b28
  rcases hnx with ⟨he,hbq,hln,hta,haM,hr,hps1,hps2⟩ | ⟨he,hstop⟩
  ·subst he
   subst hbq
   have hlkf:lk=false:=by rw [hlk,hln]; rfl
   subst hlkf
   refine wQ (t:=0 == 11) (rfl) ?_
   refine go0 4 [] [] ?_
   have hll:(path++[(t:Int)]).length=path.length + 1:=by simp
   have eu:sN uqn=path.length + 1:=by
    obtain ⟨A',c',e',-⟩:=hr.form
    simp only [Value.slice.injEq] at e'
    rw [e'.2.1,List.length_map,hll]
   rw [eu] at hr ⊢
   generalize sA uqn=A9 at *
   generalize sC uqn=c9 at *
   have pk2:=pk.snoc (a:=aq) hta haM
   have hNz:=fun (q:aq=M) H q1 q2 q3=>(hNe H aq A9 c9 (path++[(t:Int)]) q1 q2 q3 (by rw [hll]; omega) pk2).mono (R':=fun r _=>r=.tuple #[.agg #[.int .i64 0,.slice none 0 0,.bool false],.int .i64 13]) fun r h' _ q'=>by
    rcases q' with ⟨-,q'⟩ | ⟨p',q',-⟩
    ·exact q'
    ·have:=(List.getElem?_eq_some_iff.1 q').1
     omega
   rw [hll] at hNz
   have hcl:=fun H (q:RS H 1 (.slice A7 path.length c7) (uX path))=>c_cloneI q (by omega)
   have hrw:uX path++[[.int .i64 (t:Int)]]=uX (path++[(t:Int)]):=by simp [uX]
   have hpl:(uX path).length=path.length:=List.length_map _
   refine iV 36 1 [.pu,.pu,.pu,.pu,.pu,.pu,.pu,.ld 1 0,.pu,.ld 3 0,.v (fun gh=>.bool false),.pu,.pu,.pu,.ld 1 1,.pu,.ld 3 1,.e (fun gh=>.slice (sA (gh 17)) (sN (gh 17)) (sC (gh 17))) 0 (fun gh=>.row (.slice (sA (gh 17)) (sN (gh 17)) (sC (gh 17))) 3 1 (uX path)),.pu,.ld 3 0,.f (fun gh=>.slice (some ⟨(wJ (gh 20)),0,none⟩) 1 1) (fun gh hh=>Cells hh (wJ (gh 20)) 0 [Vi (t:Int)]),.e (fun gh=>.slice (sA (gh 21)) (sN (gh 21)) (sC (gh 21))) 0 (fun gh=>.row (.slice (sA (gh 21)) (sN (gh 21)) (sC (gh 21))) 3 1 ((uX path)++[[Vi (t:Int)]])),.v (fun gh=>.bool true),.pu,.pu,.pu,.pu,.ld 1 2,.pu,.ld 1 0,.pu,.ld 4 1,.pu,.pu,.v (fun gh=>.bool false),.pu] [(17,false),(20,true),(21,false)] (by exact And.intro (fun _ _ _ s c=>c.sees s) (trivial)) ?_ ?_
   ·intro R hT hA hmono
    refine And.intro (t_eq hT hA (fun gh=>.bool false) (fun gh=>.bool (decide ((aq:Int)≤(t:Int)))) (fun gh=>congrArg Value.bool (decide_eq_false (by omega)))) ?_
    refine And.intro (r_callown hT hA hmono ⟨fun _ _=>by kernel_rfl,fun _ _=>by kernel_rfl,fun _ _=>by kernel_rfl⟩ (by kernel_rfl) 143 (fun u=>.slice (sA u) (sN u) (sC u)) [12,16] 17 (by kernel_rfl) (fun _=>by kernel_rfl) 0 (GN R 0) (by kernel_rfl) (by kernel_rfl) (by kernel_rfl) 3 1 (fun gh=>uX path) (fun _=>by kernel_rfl) (fun _=>by kernel_rfl) (fun _ _=>rfl) 21 (fun gh=>#[.slice A7 path.length c7]) (fun _ _=>by kernel_rfl) (fun gh H sH fH=>hcl _ (hp.sees (S15.trans (S27.trans sH))))) ?_
    refine And.intro (r_fact hT hA hmono ⟨fun _ _=>by kernel_rfl,fun _ _=>by kernel_rfl,fun _ _=>by kernel_rfl⟩ 146 (fun g=>Vs g 1 1) [12,19] 20 (by kernel_rfl) (by kernel_rfl) (fun _=>by kernel_rfl) (fun gh=>[Vi (t:Int)]) 3 (fun _ _=>by kernel_rfl) (fun gh zb zH zc zj zq zhq zhe=>zW (i:=20) (k:=0) (f:=fun gh hh=>Cells hh (wJ (gh 20)) 0 [Vi (t:Int)]) (by kernel_rfl) (by kernel_rfl) zc zj zq zhq zhe)) ?_
    refine And.intro (mX hT hA hmono ⟨fun _ _=>by kernel_rfl,fun _ _=>by kernel_rfl,fun _ _=>by kernel_rfl⟩ 147 [12,17,20] 21 0 (GN R 0) (fun gh=>.slice (sA (gh 17)) (sN (gh 17)) (sC (gh 17))) 30 3 1 (fun gh=>uX path) (fun gh=>[[Vi (t:Int)]]) (.tmp 143) (.tmp 146) (fun gh=>(wJ (gh 20))) 1 1 0 20 (fun gh hh=>Cells hh (wJ (gh 20)) 0 [Vi (t:Int)]) (fun _ _ c=>c) Tryz.underlying30 (zv:=Vi 0) (bytes:=8) (fun _=>by constructor <;> (simp; omega))) ?_
    refine And.intro (r_callq hT hA hmono 148 (fun gh=>.bool true) [12,14,21] 22 (by kernel_rfl) (by kernel_rfl) (by kernel_rfl) (fun _=>by kernel_rfl) 0 (GN R 0) (by kernel_rfl) (by kernel_rfl) (fun gh=>.slice (sA (gh 21)) (sN (gh 21)) (sC (gh 21))) 3 1 ((uX path)++[[Vi (t:Int)]]) (fun _=>by kernel_rfl) 20 (fun gh=>#[.slice A9 (path.length + 1) c9,.slice (sA (gh 21)) (sN (gh 21)) (sC (gh 21))]) (fun _ _=>by kernel_rfl) (fun gh H bH sH fH rQ=>eqI_any _ _ _ _ _ (hr.sees sH) (by rw [← hrw]; exact rQ) (by omega) rfl)) ?_
    refine And.intro (t_eq hT hA (fun gh=>.bool false) (fun gh=>.bool (((aq:Int) == (M:Int)) != ((aq:Int) == (M:Int)))) (fun gh=>congrArg Value.bool (by simp))) ?_
    trivial
   rintro u143 b30 v147 W31 S32 ⟨f29,-⟩
   replace f29:Cells W31 b30 0 [Vi (t:Int)]:=f29
   refine vQ f29 ?_
   refine go0 14 [.b 3 0] [(164,Vi (IntKind.i64.wrap ((t:Int) + 1)),Vi ((t:Int) + 1))] ?_ (hc:=(And.intro (jJ (by omega) (by omega)) (trivial)))
   refine g_drop 0 ?_
   refine cV [0,1,0,1,1,1,1,1,0,0,1,1,0,0,1,0,1,1,1,1] [.block 6,.seq [1,1,1,1,1,1,0,0,1,1,0,0,1,0,1,1,1,1],.block 1,.seq [1,1,1,0,0,1,0,1,1,1,1]] (fun (jb:Nat) X=>∃ (W33:Vw) ,X W33 [(5,Vp b3),(6,.slice A2 N c2),(8,Vp bw),(58,Vi ((M:Int) + 1)),(59,Vi (k:Int)),(15,Vp b28),(21,Vi (jb:Int))] [.box b28 [Vi (aq:Int),.slice A9 (path.length + 1) c9,.bool ((aq:Int) == (M:Int))],.box b6 [Vi 1,.slice (sA u41) (sN u41) (sC u41),.bool false],.box bw [Vi (t:Int),.slice A7 path.length c7,.bool false],.box b3 [.slice A N c,.slice (some ⟨b11,o12,none⟩) M d]] [(b30,0,[Vi (t:Int)]),(b11,o12 + t * 8,[.string p.name,.slice Au p.fields.length cu,Vi p.skip.op,Vi p.skip.k,Vi p.skip.n,.string p.skip.s,.string p.skip.nm,.slice Bu mu du]),(b5,0,[Vi 1,Vi 1,Ve,Vi 1,Vi 0,Ve,Vi 4,Vi 0,Ve])]∧Sees W31 W33∧(t < jb)∧(jb≤aq + 1)∧(jb≤M)) (fun jb=>M + 1 - jb) (t + 1) (fun X q=>⟨W31,q _ _ _ _ ⟨rfl,by kernel_rfl⟩,Sees.refl _,by omega,by omega,by omega⟩) ?_
   rintro jb a w ⟨W33,hJ,S34,hjb,hjM,hjb2⟩; refine gV hJ ?_; clear hJ a w
   refine go0 8 [.b 0 0] [] ?_
   rcases (by omega:jb < M∧jb≤aq∨jb=M∧aq=M∨jb=aq + 1∧aq < M) with ⟨q,q'⟩ | ⟨q,q'⟩ | ⟨q,q'⟩
   ·obtain ⟨p2,hp2⟩:∃ p,fm.pages[jb]?=some p:=⟨_,List.getElem?_eq_getElem (by omega)⟩
    have hpk:=hpas jb p2 hp2
    have hPj:=fun H q1 q2=>hPs jb p2 H q1 q2 hp2
    have hww:pass jb=(decide (jb < aq),true):=by
     by_cases g:jb < aq
     ·rw [hps1 jb hjb g,decide_eq_true g]
     ·obtain rfl:jb=aq:=by omega
      rw [hps2 (by omega),decide_eq_false g]
    rw [hpk] at hww
    obtain ⟨w1,w2⟩:=Prod.mk.inj hww
    rw [w1,w2] at hPj
    refine jV 169 (v:=.bool (decide ((jb:Int)≤(aq:Int)))) (v':=.bool true) (congrArg Value.bool (decide_eq_true (by omega))) ?_
    refine go0 8 [.b 3 1] [] ?_
    refine lV (t:=decide ((jb:Int) < (M:Int))) (decide_eq_true (by omega)) ?_
    refine go0 9 [.b 3 0] [] ?_
    refine go0 22 [.cl 19 #[.agg #[.slice A N c,.slice (some ⟨b11,o12,none⟩) M d],.slice A2 N c2,Vi (jb:Int)] (.tuple #[.bool (decide (jb < aq)),.bool true]),.b 0 0] [] ?_ (ho:=(And.intro (fun H sH=>hPj _ (hfm.sees (S8.trans (S10.trans (S15.trans (S27.trans (S32.trans (S34.trans sH))))))) (hva.sees (S8.trans (S10.trans (S15.trans (S27.trans (S32.trans (S34.trans sH)))))))) (trivial)))
    refine wQ (t:=(decide (jb < aq)) != (decide ((jb:Int) < (aq:Int)))) ((by simp)) ?_
    refine go0 8 [] [(177,Vi (IntKind.i64.wrap ((jb:Int) + 1)),Vi ((jb:Int) + 1))] ?_ (hc:=(And.intro (jJ (by omega) (by omega)) (trivial)))
    exact kV (jb + 1) (fun X q=>⟨W33,q _ _ _ _ ⟨rfl,by kernel_rfl⟩,S34,by omega,by omega,by omega⟩) (by omega)
   ·skip
    refine jV 169 (v:=.bool (decide ((jb:Int)≤(aq:Int)))) (v':=.bool true) (congrArg Value.bool (decide_eq_true (by omega))) ?_
    refine go0 8 [.b 3 1] [] ?_
    refine wQ (t:=decide ((jb:Int) < (M:Int))) (decide_eq_false (by omega)) ?_
    refine go0 2 [] [] ?_
    refine aV ?_
    refine go0 9 [.b 0 2] [] ?_
    refine lV (t:=(aq:Int) == (M:Int)) (beq_iff_eq.2 (by omega)) ?_
    refine go0 5 [.b 3 0,.b 0 0] [] ?_
    refine pQ (fun H sH=>hNz q' _ (hfm.sees (S8.trans (S10.trans (S15.trans (S27.trans (S32.trans (S34.trans sH))))))) (hva.sees (S8.trans (S10.trans (S15.trans (S27.trans (S32.trans (S34.trans sH))))))) (hr.sees (S32.trans (S34.trans sH)))) ?_; rintro _ W35 S36 rfl
    refine go1 19 [.own,.b 0 0] [] ?_
    intro b37
    refine aV ?_
    refine go0 2 [] [] ?_
    refine hQ.to [.bool true] (fun H sH=>?_)
    exact rfl
   ·skip
    refine jV 169 (v:=.bool (decide ((jb:Int)≤(aq:Int)))) (v':=.bool false) (congrArg Value.bool (decide_eq_false (by omega))) ?_
    refine go0 11 [] [] ?_
    refine aV ?_
    refine go0 9 [.b 0 2] [] ?_
    refine wQ (t:=(aq:Int) == (M:Int)) (beq_eq_false_iff_ne.2 (by omega)) ?_
    refine go0 12 [.b 0 0,.b 2 0] [(207,Vi (IntKind.i64.wrap ((k:Int) + 1)),Vi ((k:Int) + 1))] ?_ (hc:=(And.intro (jJ (by omega) (by omega)) (trivial)))
    have hqf:((aq:Int) == (M:Int))=false:=beq_eq_false_iff_ne.2 (by omega)
    refine zQ [(5,Vp b3),(6,.slice A2 N c2),(8,Vp bw),(58,Vi ((M:Int) + 1)),(59,Vi ((k:Int) + 1))] [.box b6 [Vi 1,.slice (sA u41) (sN u41) (sC u41),.bool false],.box bw [Vi (aq:Int),.slice A9 (path.length + 1) c9,.bool ((aq:Int) == (M:Int))],.box b3 [.slice A N c,.slice (some ⟨b11,o12,none⟩) M d]] [(b5,0,[Vi 1,Vi 1,Ve,Vi 1,Vi 0,Ve,Vi 4,Vi 0,Ve])] ?_
    exact kV (k + 1) (fun X q=>⟨W33,aq,path++[(t:Int)],A9,c9,q _ _ _ _ (iY (by rw [hll,hqf]; try rfl)),(S10.trans (S15.trans (S27.trans (S32.trans S34)))),by omega,q',by rw [hll]; omega,by rw [hll]; exact (hr.sees (S32.trans S34)),pk2⟩) (by omega)
  ·skip
   subst he
   refine lV (t:=11 == 11) (rfl) ?_
   refine go0 16 [.b 2 0] [(99,Vi (IntKind.i64.wrap ((t:Int) + 1)),Vi ((t:Int) + 1))] ?_ (hc:=(And.intro (jJ (by omega) (by omega)) (trivial)))
   have hst:lk=true∨∃ kk,t + 1≤kk∧kk < M∧(∀ i,t < i→i < kk→pass i=(true,true))∧(pass kk).2=false:=by
    rcases hstop with q | ⟨kk,q1,q2,q3,q4⟩
    ·refine .inl ?_
     rw [hlk]
     cases hq:xV fm.fields va p.fields with
     | nil=>exact absurd hq q
     | cons y ys=>rfl
    ·exact .inr ⟨kk,q1,q2,q3,q4⟩
   refine cV [0,1,0,1,0,1,0,1,1,1,0,0,1,1,0,0,1,0,1,1,1,1] [.block 4,.seq [1,1,0,1,0,1,1,1,0,0,1,1,0,0,1,0,1,1,1,1],.seq [1,1,1,1,0,0,1,1,0,0,1,0,1,1,1,1],.block 1,.seq [1,1,1,0,0,1,0,1,1,1,1]] (fun (ja:Nat) X=>∃ (W38:Vw) (lq:Bool),X W38 [(5,Vp b3),(6,.slice A2 N c2),(18,Vi (ja:Int)),(17,.bool lq)] [.box b28 [Vi (aq:Int),.slice (sA uqn) (sN uqn) (sC uqn),.bool bqn],.box b6 [Vi 1,.slice (sA u41) (sN u41) (sC u41),.bool false],.box bw [Vi (t:Int),.slice A7 path.length c7,.bool false],.box b3 [.slice A N c,.slice (some ⟨b11,o12,none⟩) M d]] [(b11,o12 + t * 8,[.string p.name,.slice Au p.fields.length cu,Vi p.skip.op,Vi p.skip.k,Vi p.skip.n,.string p.skip.s,.string p.skip.nm,.slice Bu mu du]),(b5,0,[Vi 1,Vi 1,Ve,Vi 1,Vi 0,Ve,Vi 4,Vi 0,Ve])]∧Sees W26 W38∧(t < ja)∧(ja≤M)∧(lq=true∨∃ kk,ja≤kk∧kk < M∧(∀ i,t < i→i < kk→pass i=(true,true))∧(pass kk).2=false)) (fun ja=>M + 1 - ja) (t + 1) (fun X q=>⟨W26,lk,q _ _ _ _ ⟨rfl,by kernel_rfl⟩,Sees.refl _,by omega,by omega,hst⟩) ?_
   rintro ja a w ⟨W38,lq,hJ,S39,hja,hjM,hq⟩; refine gV hJ ?_; clear hJ a w
   refine go0 9 [.b 3 1] [] ?_
   rcases Bool.eq_false_or_eq_true lq with g | g
   ·subst g
    rcases (by omega:ja < M∨ja=M) with q | q
    ·refine jV 105 (v:=.bool (decide ((ja:Int) < (M:Int)))) (v':=.bool true) (congrArg Value.bool (decide_eq_true (by omega))) ?_
     refine go0 8 [] [] ?_
     refine aV ?_
     refine go0 12 [] [] ?_
     refine aV ?_
     refine go0 2 [] [] ?_
     refine hQ.to [.bool true] (fun H sH=>?_)
     exact rfl
    ·skip
     refine jV 105 (v:=.bool (decide ((ja:Int) < (M:Int)))) (v':=.bool false) (congrArg Value.bool (decide_eq_false (by omega))) ?_
     refine go0 8 [] [] ?_
     refine aV ?_
     refine go0 12 [] [] ?_
     refine aV ?_
     refine go0 2 [] [] ?_
     refine hQ.to [.bool true] (fun H sH=>?_)
     exact rfl
   ·skip
    obtain ⟨kk,k1,k2,k3,k4⟩:=hq.resolve_left (by rw [g]; decide)
    subst g
    obtain ⟨p2,hp2⟩:∃ p,fm.pages[ja]?=some p:=⟨_,List.getElem?_eq_getElem (by omega)⟩
    have hpk:=hpas ja p2 hp2
    have hPj:=fun H q1 q2=>hPs ja p2 H q1 q2 hp2
    generalize (passB p2 env).1=w1 at *
    generalize (passB p2 env).2=w2 at *
    refine jV 105 (v:=.bool (decide ((ja:Int) < (M:Int)))) (v':=.bool true) (congrArg Value.bool (decide_eq_true (by omega))) ?_
    refine go0 15 [.b 3 0] [] ?_
    refine go0 19 [.cl 19 #[.agg #[.slice A N c,.slice (some ⟨b11,o12,none⟩) M d],.slice A2 N c2,Vi (ja:Int)] (.tuple #[.bool w1,.bool w2])] [] ?_ (ho:=(And.intro (fun H sH=>hPj _ (hfm.sees (S8.trans (S10.trans (S15.trans (S27.trans (S39.trans sH)))))) (hva.sees (S8.trans (S10.trans (S15.trans (S27.trans (S39.trans sH))))))) (trivial)))
    rcases (by omega:ja < kk∨ja=kk) with q | q
    ·have hww:=k3 ja hja q
     rw [hpk] at hww
     obtain ⟨rfl,rfl⟩:=Prod.mk.inj hww
     refine go0 14 [] [(110,Vi (IntKind.i64.wrap ((ja:Int) + 1)),Vi ((ja:Int) + 1))] ?_ (hc:=(And.intro (jJ (by omega) (by omega)) (trivial)))
     exact kV (ja + 1) (fun X q=>⟨W38,false,q _ _ _ _ ⟨rfl,by kernel_rfl⟩,S39,by omega,by omega,.inr ⟨kk,by omega,k2,k3,k4⟩⟩) (by omega)
    ·skip
     subst q
     rw [hpk] at k4
     have k4:w2=false:=k4
     subst k4
     refine go0 14 [] [(110,Vi (IntKind.i64.wrap ((ja:Int) + 1)),Vi ((ja:Int) + 1))] ?_ (hc:=(And.intro (jJ (by omega) (by omega)) (trivial)))
     exact kV (ja + 1) (fun X q=>⟨W38,true,q _ _ _ _ ⟨rfl,by kernel_rfl⟩,S39,by omega,by omega,.inl rfl⟩) (by omega)
theorem navGoes_walk (v:Value) (l:List RawD) (v':Value) (m:List RawD) (w:World) (h:RawsOf w v l) (h':RawsOf w v' m) :
  Calls Tryz.prog 3 #[v,v'] w fun e w'=>e=.returned (.bool true)∧Below w.heap.size w w' :=
 C0.law (navGoes_c l m v v' ⟨w,[]⟩ h.rs h'.rs h.2.1 h'.2.1 h.2.2 h'.2.2)
namespace navGoesLaw
open Go.ChangeShapes Go.WideShapes Go.ChangeAt Go.RowKit
open Go.ChangeMaps (open_string shut_string)
set_option linter.unusedVariables false
theorem lifted (os:Os) (started:os.Started) (H:Type) (enc:TypeId × Value→H) :
  ReturnsInHanded {} Tryz.checked os 3 .any (Rows.navGoesSpec.pre6 enc Tryz.prog Tryz.f3 Rows.navGoesRow.domain false) (Rows.navGoesSpec.post enc Tryz.prog Tryz.f3 false true false false):=by
 refine returnsInHanded_of_change_sized (C:=Tryz.checked) ownNone started (by kernel_rfl) Tryz.func3
  (ChangeSpec.witness6 (enc:=enc) (C:=Tryz.checked) false ⟨#[],#[.slice none 0 0,.slice none 0 0],[]⟩ 8 (by kernel_rfl) (by kernel_rfl) (by kernel_rfl) (by kernel_rfl)) ?_
 intro W base args ds gs before hval0 hW hcnd hsz0 _
 have hval:∀ (j:Nat) t v,Tryz.f3.params[j]?=some t→args[j]?=some v→Value.okWide Tryz.prog W .any base t v:=hval0
 have hsz:(DataW.weightsEach Tryz.prog (Tryz.f3.params.toList++Rows.navGoesSpec.plain.varTypes Tryz.prog) (ds++gs)).all (· ≤ reachBytes)=true:=hsz0
 have hW':=hW
 obtain ⟨p,q,hA0,hV,rfl,hfz,hnd⟩:=hW
 have hA:DataW.TrodAll enc Tryz.prog W 0 (fun _=>true) true Tryz.f3.params.toList args.toList ds p:=hA0
 rw [Tryz.params3] at hA hval hsz
 obtain ⟨v0,vs0,d0,ds0,p0,q0,hargs,rfl,rfl,h0,r0⟩:=trodAll_cons hA
 obtain ⟨v1,vs1,d1,ds1,p1,q1,rfl,rfl,rfl,h1,r1⟩:=trodAll_cons r0
 obtain ⟨rfl,rfl,rfl⟩:=trodAll_nil r1
 obtain rfl:args=#[v0,v1]:=by cases args; simp_all
 obtain ⟨rfl,rfl⟩:=trodVars_none hV
 have k0:=h0
 have lt0:∀ x∈p0,x.block < W.heap.size:=by obtain ⟨m,hm⟩:=k0; exact DataW.trod_lt m _ _ _ hm
 obtain ⟨a0,w0⟩:=open_rows (hval 0 22 v0 rfl rfl) h0 (fun es ss hd=>sized_slice hsz (j:=0) (t:=22) (elems:=es) (spare:=ss) rfl (by rw [hd]; rfl) Tryz.underlying22)
 have k1:=h1
 have lt1:∀ x∈p1,x.block < W.heap.size:=by obtain ⟨m,hm⟩:=k1; exact DataW.trod_lt m _ _ _ hm
 obtain ⟨a1,w1⟩:=open_rows (hval 1 22 v1 rfl rfl) h1 (fun es ss hd=>sized_slice hsz (j:=1) (t:=22) (elems:=es) (spare:=ss) rfl (by rw [hd]; rfl) Tryz.underlying22)
 clear hA0 hval0 hsz0
 refine (navGoes_walk v0 a0 v1 a1 W w0 w1).mono fun e W' ⟨he,bel⟩=>?_
 subst he
 exact ⟨_,rfl,_,_,_,[],_,[],hW',trodAll_mk1 (shut_bool Tryz.underlying4 _),(trodAll_cons_mk (Below.trod laidOutTrue (by kernel_rfl) (of_decide_eq_true (by kernel_rfl)) k0 bel lt0) (trodAll_cons_mk (Below.trod laidOutTrue (by kernel_rfl) (of_decide_eq_true (by kernel_rfl)) k1 bel lt1) trodAll_mk0)),rfl,bel.frame _,fun h=>by cases h⟩
theorem over:Rows.navGoesRow.holds Tryz.pinned (OpenSpec.ofChange Rows.navGoesSpec) :=
 OpenClaim.holds_of_wide 3 Tryz.f3 rfl rfl rfl rfl rfl rfl rfl ⟨rfl,rfl,rfl,rfl,rfl⟩ rfl rfl rfl rfl rfl (by kernel_rfl) Tryz.func3 (by kernel_rfl)
  (of_decide_eq_true (by kernel_rfl)) (by unfold Func.isWrapper; first | (rw [if_pos (by decide +kernel)]; kernel_rfl) | (rw [if_neg (by decide +kernel)]; exact ⟨rfl,rfl⟩))
  (fun os started H enc _=>lifted os started H enc)
end navGoesLaw
theorem navGoes_holds:Rows.NavGoesSaid:=navGoesLaw.over
#print axioms navGoes_holds
end Go.Proofs.YtjpgjnldeafpkaaGreat
