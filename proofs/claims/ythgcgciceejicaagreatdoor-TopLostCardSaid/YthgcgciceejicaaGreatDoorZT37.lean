/-
  Contracts: eval's fault, truth, kinds; num's operations; value.Compare.
-/
import Derived.Test.YthgcgciceejicaaGreatDoorZT31
import Derived.Test.YthgcgciceejicaaGreatDoorZT36
set_option maxRecDepth 100000
namespace Go.Proofs.YthgcgciceejicaaGreatDoor
open Go.RowKit
theorem C0.of_draws {k:FuncId} {args:Array Value} {v:Value} (hc:∀ w,Calls Tryz.prog k args w (Draws v w)) (h:Vw):C0 Tryz.prog k args h (λv' _=>v'=v):=by
 intro _ _ _ _;refine (hc h.w).mono ?_;rintro e w' ⟨rfl,n,rfl⟩;exact ⟨v,[],rfl,⟨rfl,rfl,rfl,Hj _,λ_ _ _=>rfl⟩,(λx hx=>by cases hx),rfl,rfl⟩
def numF (op:Int):Nat:=if op=5 then 199 else if op=6 then 200 else if op=7 then 201 else if op=8 then 202 else 203
theorem num_any (op a b:Int) (h:Vw) (ha:Lim a) (hb:Lim b):C0 Tryz.prog (numF op) #[Vi a,Vi b] h (λv _=>v=.tuple #[Vi (sW op a b).1,Vi (sW op a b).2]):=by
 unfold numF sW
 by_cases h5:op=5
 ·rw [Cj h5,Cj h5]
  by_cases hl : -1099511627776 <= a * b /\ a * b <= 1099511627776
  ·rw [Cj hl]; exact C0.of_same (λw=>mul_ok a b _ w ha hb hl rfl) h
  ·rw [Bj hl]; exact C0.of_same (λw=>mul_over a b w ha hb hl) h
 ·rw [Bj h5,Bj h5]
  by_cases h6:op=6
  ·rw [Cj h6,Cj h6]
   by_cases hz:b=0
   ·subst hz; rw [Cj rfl]; exact C0.of_same (λw=>div_zero a w ha) h
   ·rw [Bj hz]; exact C0.of_draws (λw=>div_ok a b w ha hb hz) h
  ·rw [Bj h6,Bj h6]
   by_cases h7:op=7
   ·rw [Cj h7,Cj h7]
    by_cases hz:b=0
    ·subst hz; rw [Cj rfl]; exact C0.of_same (λw=>mod_zero a w ha) h
    ·rw [Bj hz]; exact C0.of_draws (λw=>mod_ok a b w ha hb hz) h
   ·rw [Bj h7,Bj h7]
    by_cases h8:op=8
    ·rw [Cj h8,Cj h8]
     by_cases hl : -1099511627776 <= a + b /\ a + b <= 1099511627776
     ·rw [Cj hl]; exact C0.of_same (λw=>add_ok a b w ha hb hl) h
     ·rw [Bj hl]; exact C0.of_same (λw=>add_over a b w ha hb (by omega)) h
    ·rw [Bj h8,Bj h8]
     by_cases hl : -1099511627776 <= a - b /\ a - b <= 1099511627776
     ·rw [Cj hl]; exact C0.of_same (λw=>sub_ok a b w ha hb hl) h
     ·rw [Bj hl]; exact C0.of_same (λw=>sub_over a b w ha hb (by omega)) h
theorem vK (e:Int) (h:Vw):C0 Tryz.prog 157 #[Vi e] h (λv _=>v=(uK e).val):=by
 refine pQ Tryz.func157 λhbx hbad Q hQ=>?_;refine go1 13 [.own,.b 0 0] [] ?_;intro b1;refine hQ.to [.agg #[Vi 5,Vi e,Ve]] (λH sH=>?_) (ix:=[0]);exact rfl
theorem gZ (b:Bool) (h:Vw):C0 Tryz.prog 197 #[.bool b] h (λv _=>v=(truthV b).val):=by
 cases b
 ·refine pQ Tryz.func197 λhbx hbad Q hQ=>?_;refine go1 21 [.own,.b 0 0] [] ?_;intro b1;refine hQ.to [.agg #[Vi 2,Vi 0,Ve]] (λH sH=>?_) (ix:=[0]);exact rfl
 ·refine pQ Tryz.func197 λhbx hbad Q hQ=>?_;refine go1 20 [.own,.b 0 0] [] ?_;intro b1;refine hQ.to [.agg #[Vi 2,Vi 1,Ve]] (λH sH=>?_) (ix:=[0]);exact rfl
abbrev vrows (l:List Vl):List (List Value):=l.map Vl.cells
theorem uV (l:List Vl) (sl:Value) (kind:Int) (h:Vw) (hr:RS h 3 sl (vrows l)) (hl:l.length <= 1000):C0 Tryz.prog 198 #[sl,Vi kind] h (λv _=>v=.bool (tV l kind)):=by
 obtain ⟨A,cap,rfl,-,-,-⟩:=hr.form;rw [Ij] at *;generalize hL:l.length=len at *;refine pQ Tryz.func198 λhbx hbad Q hQ=>?_;refine go0 14 [] [] ?_;refine yQ [0,1,0,1] [.block 0,.seq [1,1]] (λ(k:Nat) X=>∃ (W1:Vw) ,X W1 [(1,Vi kind),(7,.slice A len cap),(8,Vi (len:Int)),(9,Vi (k:Int))] [] [] /\ Sees h W1 /\ (k <= len) /\ (∀ v∈l.take k,v.k=kind)) (λk=>len - k) (0) (λX q=>⟨h,q _ _ _ _ ⟨rfl,by kernel_rfl⟩,Sees.refl _,Mj _,by simp⟩) ?_;rintro k a w ⟨W1,hJ,S2,hk,ha⟩; refine dV hJ ?_; clear hJ a w;refine go0 6 [] [] ?_;rcases (by omega:k < len\/len=k) with hlt | hke
 ·obtain ⟨y,hy⟩:∃ y,l[k]?=some y:=⟨_,Gj (by omega)⟩;have hrow:(vrows l)[k]?=some y.cells:=by rw [Oj,hy]; rfl
  refine jV (t:=decide ((k:Int) < (len:Int))) (Jj (by omega)) ?_;refine go0 6 [] [] ?_;obtain ⟨b3,o4,rfl,-,c5⟩:=RS.row hr (hrow);refine qQ (c5.sees S2) ?_;refine go1 14 [.ix b3 o4 len cap k,.f 0 0,.own,.b 0 0,.b 0 0] [] ?_ (ho:=(Aj (by first | omega | (simp; omega)) (trivial)));intro b6
  by_cases hyk:y.k=kind
  ·skip;refine tQ (t:=y.k != kind) (Rk.2 hyk) ?_
   refine go0 7 [] [(17,Vi (IntKind.i64.wrap ((k:Int) + 1)),Vi ((k:Int) + 1))] ?_ (hc:=(Aj (jJ (by omega) (by omega)) (trivial)));exact iV (k + 1) (λX q=>⟨W1,q _ _ _ _ ⟨rfl,by kernel_rfl⟩,S2,by omega,by rw [cZ l k y hy]; intro v hv; rcases Qj.1 hv with g | g; exact ha v g; rw [Pj.1 g]; exact hyk⟩)
  ·skip;refine jV (t:=y.k != kind) (Hk.2 hyk) ?_
   refine go0 8 [] [] ?_;refine xQ ?_;refine go0 2 [] [] ?_;refine hQ.to [.bool false] (λH sH=>?_);show Value.bool false=_
   have:tV l kind=false:=by
    unfold tV;rw [List.all_eq_false];exact ⟨y,Ej hy,by simpa using hyk⟩
   rw [this]
 ·skip;have hta:l.take k=l:=by rw [<- hke, <- hL,Pk]
  rw [hta] at ha;refine tQ (t:=decide ((k:Int) < (len:Int))) (Kj (by omega)) ?_;refine go0 2 [] [] ?_;refine xQ ?_;refine go0 8 [] [] ?_;refine hQ.to [.bool true] (λH sH=>?_);show Value.bool true=_
  have:tV l kind=true:=by
   unfold tV;rw [Sj];intro v hv; simpa using ha v hv
  rw [this]
theorem compare_other (v w':Vl) (h:Vw) (hv:v.known) (hw:w'.known) (hne:v.k≠w'.k):C0 Tryz.prog 196 #[v.val,w'.val] h (λr _=>r=.tuple #[Vi 0,Vi 9]):=by
 have h1:=c_known v.k v.n v.s;have h2:=c_known w'.k w'.n w'.s;refine pQ Tryz.func196 λhbx hbad Q hQ=>?_;refine go2 37 [.own,.own,.b 1 0,.cl 60 #[.agg #[Vi v.k,Vi v.n,.string v.s]] (.bool true),.b 0 0,.cl 60 #[.agg #[Vi w'.k,Vi w'.n,.string w'.s]] (.bool true),.b 1 0,.b 0 0] [(19,.bool (v.k != w'.k),.bool true)] ?_ (ho:=(Aj (λH sH=>h1 _ hv) (Aj (λH sH=>h2 _ hw) (trivial)))) (hc:=(Aj (Dj Value.bool (Hk.2 hne)) (trivial)));intro b1 b2;refine hQ.to [Vi 0,Vi 9] (λH sH=>?_);exact rfl
theorem compare_any (v w':Vl) (h:Vw) (hv:v.known) (hw:w'.known):C0 Tryz.prog 196 #[v.val,w'.val] h (λr _=>r=if v.k=w'.k then .tuple #[Vi (cmpV v.n w'.n v.s.toList w'.s.toList),Vi 0] else .tuple #[Vi 0,Vi 9]):=by
 by_cases he:v.k=w'.k
 ·obtain ⟨k,n,s⟩:=v;obtain ⟨k',n',s'⟩:=w';simp only at he;subst he;rw [Cj rfl];exact C0.of_gives (λw=>compare_known k n n' s s' w hv hw) h
 ·rw [Bj he]; exact compare_other v w' h hv hw he
theorem hd0 (x:Vl) (l:List Vl):hdV (x :: l) 0=x:=rfl
theorem hd1 (x y:Vl) (l:List Vl):hdV (x :: y :: l) 1=y:=rfl
theorem run_cat {t:TypeId} {a b:ByteArray} {w:World} (h:a.size + b.size <= 1000):(binOp .add t (Vt a) (Vt b)).run Tryz.prog w=.ok (Vt (a++b)) w:=by rw [binOp_string_add]; exact run_string_add_sum w a b (by omega)
theorem row0 {h:Vw} {x:Vl} {l:List Vl} {sl:Value} (hr:RS h 3 sl (vrows (x :: l))):∃ b o cap,sl=.slice (some ⟨b,o,none⟩) (l.length + 1) cap /\ Cells h b (o + 0 * 3) x.cells:=by
 obtain ⟨A,cap,rfl,-,-,-⟩:=hr.form;obtain ⟨b,o,rfl,-,c⟩:=hr.row (i:=0) (x:=x.cells) rfl;refine ⟨b,o,cap,?_,c⟩;simp
theorem vV {l:List Vl} (hk:∀ v∈l,v.known) (h:tV l 1=true):∀ v∈l,Lim v.n:=λv hv=>by
 have h1:v.k=1:=by unfold tV at h; rw [Sj] at h; simpa using h v hv
 rcases hk v hv with g | g | g
 ·exact g.2.1
 ·omega
 ·omega
theorem known_texts {l:List Vl} (hk:∀ v∈l,v.known) (h:tV l 3=true):∀ v∈l,v.s.size <= 40:=λv hv=>by
 have h1:v.k=3:=by unfold tV at h; rw [Sj] at h; simpa using h v hv
 rcases hk v hv with g | g | g
 ·omega
 ·omega
 ·exact g.2.2.1
def cmpP (x y:Vl):Int × Int:=if x.k=y.k then (cmpV x.n y.n x.s.toList y.s.toList,0) else (0,9)
theorem cmp2 (x y:Vl) (h:Vw) (hx:x.known) (hy:y.known):C0 Tryz.prog 196 #[x.val,y.val] h (λr _=>r=.tuple #[Vi (cmpP x y).1,Vi (cmpP x y).2]):=by
 have:=compare_any x y h hx hy
 unfold cmpP
 by_cases he:x.k=y.k
 ·simp only [Cj he] at this ⊢; exact this
 ·simp only [Bj he] at this ⊢; exact this
theorem apply_11 (x y:Vl) (sl:Value) (h:Vw) (hr:RS h 3 sl (vrows [x,y])) (hk:∀ v∈[x,y],v.known):C0 Tryz.prog 161 #[Vi 11,sl] h (λv _=>v=(lJ 11 [x,y]).val):=by
 obtain ⟨b,o,cap,rfl,c0⟩:=row0 hr;have kx:=hk x (by simp);have ky:=hk y (by simp);have c1:Cells h b (o + 1 * 3) y.cells:=hr.cell (i:=1) rfl;have hcp:=λH=>cmp2 x y H kx ky;have hap:lJ 11 [x,y]=if x.k=y.k then truthV (cmpB 11 (cmpV x.n y.n x.s.toList y.s.toList)) else uK 9:=by unfold lJ; rw [Cj (by omega),hd0,hd1]
 have hp:(x.k=y.k -> cmpP x y=(cmpV x.n y.n x.s.toList y.s.toList,0)) /\ (x.k≠y.k -> cmpP x y=(0,9)):=⟨λe=>Cj e,λe=>Bj e⟩;generalize cmpP x y=p at *;refine pQ Tryz.func161 λhbx hbad Q hQ=>?_;refine qQ (c0.sees (Sees.refl _)) ?_;refine qQ (c1.sees (Sees.refl _)) ?_;refine go1 24 [.own] [] ?_;intro b1;refine fV 12 0 [.pu,.v (λgh=>.pointer (some ⟨b,o + 0 * 3,none⟩)),.lf 1 0,.pu,.v (λgh=>.pointer (some ⟨b,o + 1 * 3,none⟩)),.lf 0 0,.v (λgh=>.tuple #[Vi p.1,Vi p.2]),.pu,.pu,.pu,.pu,.pu] [] (trivial) ?_ ?_
 ·intro R hT hA hmono;refine Aj (bZ hT hA b o 2 cap 0 (λgh=>.pointer (some ⟨b,o + 0 * 3,none⟩)) ((by decide))) ?_;refine Aj (bZ hT hA b o 2 cap 1 (λgh=>.pointer (some ⟨b,o + 1 * 3,none⟩)) ((by decide))) ?_;refine Aj (t_v hT hA hmono (k:=196) (args:=(λgh=>#[.agg #[Vi x.k,Vi x.n,.string x.s],.agg #[Vi y.k,Vi y.n,.string y.s]])) (f:=λgh=>.tuple #[Vi p.1,Vi p.2]) (λgh H sH fH lent=>hcp _)) ?_
  trivial
 rintro W2 S3 -;refine go0 8 [] [] ?_
 by_cases he:x.k=y.k
 ·have e:=hp.1 he;refine tQ (t:=p.2 != 0) ((by rw [e]; rfl)) ?_;refine go0 11 [] [] ?_
  by_cases hc:p.1 < 0
  ·refine gV 38 (v:=.bool (decide (p.1 < 0))) (v':=.bool true) (Dj Value.bool (Jj hc)) ?_;refine go0 30 [.cl 197 #[.bool true] (.agg #[Vi 2,Vi 1,Ve]),.b 0 0] [] ?_ (ho:=(Aj (λH sH=>gZ true _) (trivial)));rw [e] at hc;have hb:cmpB 11 (cmpV x.n y.n x.s.toList y.s.toList)=true:=by simp only at hc; simp [cmpB,hc]
   refine hQ.to [.agg #[Vi 2,Vi 1,Ve]] (λH sH=>?_) (ix:=[0]);rw [hap,Cj he,hb]; rfl
  ·skip;refine gV 38 (v:=.bool (decide (p.1 < 0))) (v':=.bool false) (Dj Value.bool (Kj hc)) ?_
   refine go0 30 [.cl 197 #[.bool false] (.agg #[Vi 2,Vi 0,Ve]),.b 0 0] [] ?_ (ho:=(Aj (λH sH=>gZ false _) (trivial)));rw [e] at hc;have hb:cmpB 11 (cmpV x.n y.n x.s.toList y.s.toList)=false:=by simp only at hc; simp [cmpB,hc]
   refine hQ.to [.agg #[Vi 2,Vi 0,Ve]] (λH sH=>?_) (ix:=[0]);rw [hap,Cj he,hb]; rfl
 ·skip;have e:=hp.2 he
  refine jV (t:=p.2 != 0) ((by rw [e]; rfl)) ?_;refine go0 11 [.cl 157 #[Vi p.2] (.agg #[Vi 5,Vi p.2,Ve]),.b 0 0] [] ?_ (ho:=(Aj (λH sH=>vK _ _) (trivial)));refine hQ.to [.agg #[Vi 5,Vi p.2,Ve]] (λH sH=>?_) (ix:=[0]);rw [hap,Bj he,e]; rfl
theorem apply_12 (x y:Vl) (sl:Value) (h:Vw) (hr:RS h 3 sl (vrows [x,y])) (hk:∀ v∈[x,y],v.known):C0 Tryz.prog 161 #[Vi 12,sl] h (λv _=>v=(lJ 12 [x,y]).val):=by
 obtain ⟨b,o,cap,rfl,c0⟩:=row0 hr;have kx:=hk x (by simp);have ky:=hk y (by simp);have c1:Cells h b (o + 1 * 3) y.cells:=hr.cell (i:=1) rfl;have hcp:=λH=>cmp2 x y H kx ky;have hap:lJ 12 [x,y]=if x.k=y.k then truthV (cmpB 12 (cmpV x.n y.n x.s.toList y.s.toList)) else uK 9:=by unfold lJ; rw [Cj (by omega),hd0,hd1]
 have hp:(x.k=y.k -> cmpP x y=(cmpV x.n y.n x.s.toList y.s.toList,0)) /\ (x.k≠y.k -> cmpP x y=(0,9)):=⟨λe=>Cj e,λe=>Bj e⟩;generalize cmpP x y=p at *;refine pQ Tryz.func161 λhbx hbad Q hQ=>?_;refine qQ (c0.sees (Sees.refl _)) ?_;refine qQ (c1.sees (Sees.refl _)) ?_;refine go1 31 [.own] [] ?_;intro b1;refine fV 12 0 [.pu,.v (λgh=>.pointer (some ⟨b,o + 0 * 3,none⟩)),.lf 1 0,.pu,.v (λgh=>.pointer (some ⟨b,o + 1 * 3,none⟩)),.lf 0 0,.v (λgh=>.tuple #[Vi p.1,Vi p.2]),.pu,.pu,.pu,.pu,.pu] [] (trivial) ?_ ?_
 ·intro R hT hA hmono;refine Aj (bZ hT hA b o 2 cap 0 (λgh=>.pointer (some ⟨b,o + 0 * 3,none⟩)) ((by decide))) ?_;refine Aj (bZ hT hA b o 2 cap 1 (λgh=>.pointer (some ⟨b,o + 1 * 3,none⟩)) ((by decide))) ?_;refine Aj (t_v hT hA hmono (k:=196) (args:=(λgh=>#[.agg #[Vi x.k,Vi x.n,.string x.s],.agg #[Vi y.k,Vi y.n,.string y.s]])) (f:=λgh=>.tuple #[Vi p.1,Vi p.2]) (λgh H sH fH lent=>hcp _)) ?_
  trivial
 rintro W2 S3 -;refine go0 8 [] [] ?_
 by_cases he:x.k=y.k
 ·have e:=hp.1 he;refine tQ (t:=p.2 != 0) ((by rw [e]; rfl)) ?_;refine go0 19 [] [] ?_
  by_cases hc:p.1 <= 0
  ·refine gV 46 (v:=.bool (decide (p.1 <= 0))) (v':=.bool true) (Dj Value.bool (Jj hc)) ?_;refine go0 22 [.cl 197 #[.bool true] (.agg #[Vi 2,Vi 1,Ve]),.b 0 0] [] ?_ (ho:=(Aj (λH sH=>gZ true _) (trivial)));rw [e] at hc;have hb:cmpB 12 (cmpV x.n y.n x.s.toList y.s.toList)=true:=by simp only at hc; simp [cmpB,hc]
   refine hQ.to [.agg #[Vi 2,Vi 1,Ve]] (λH sH=>?_) (ix:=[0]);rw [hap,Cj he,hb]; rfl
  ·skip;refine gV 46 (v:=.bool (decide (p.1 <= 0))) (v':=.bool false) (Dj Value.bool (Kj hc)) ?_
   refine go0 22 [.cl 197 #[.bool false] (.agg #[Vi 2,Vi 0,Ve]),.b 0 0] [] ?_ (ho:=(Aj (λH sH=>gZ false _) (trivial)));rw [e] at hc;have hb:cmpB 12 (cmpV x.n y.n x.s.toList y.s.toList)=false:=by simp only at hc; simp [cmpB,hc]
   refine hQ.to [.agg #[Vi 2,Vi 0,Ve]] (λH sH=>?_) (ix:=[0]);rw [hap,Cj he,hb]; rfl
 ·skip;have e:=hp.2 he
  refine jV (t:=p.2 != 0) ((by rw [e]; rfl)) ?_;refine go0 11 [.cl 157 #[Vi p.2] (.agg #[Vi 5,Vi p.2,Ve]),.b 0 0] [] ?_ (ho:=(Aj (λH sH=>vK _ _) (trivial)));refine hQ.to [.agg #[Vi 5,Vi p.2,Ve]] (λH sH=>?_) (ix:=[0]);rw [hap,Bj he,e]; rfl
theorem apply_13 (x y:Vl) (sl:Value) (h:Vw) (hr:RS h 3 sl (vrows [x,y])) (hk:∀ v∈[x,y],v.known):C0 Tryz.prog 161 #[Vi 13,sl] h (λv _=>v=(lJ 13 [x,y]).val):=by
 obtain ⟨b,o,cap,rfl,c0⟩:=row0 hr;have kx:=hk x (by simp);have ky:=hk y (by simp);have c1:Cells h b (o + 1 * 3) y.cells:=hr.cell (i:=1) rfl;have hcp:=λH=>cmp2 x y H kx ky;have hap:lJ 13 [x,y]=if x.k=y.k then truthV (cmpB 13 (cmpV x.n y.n x.s.toList y.s.toList)) else uK 9:=by unfold lJ; rw [Cj (by omega),hd0,hd1]
 have hp:(x.k=y.k -> cmpP x y=(cmpV x.n y.n x.s.toList y.s.toList,0)) /\ (x.k≠y.k -> cmpP x y=(0,9)):=⟨λe=>Cj e,λe=>Bj e⟩;generalize cmpP x y=p at *;refine pQ Tryz.func161 λhbx hbad Q hQ=>?_;refine qQ (c0.sees (Sees.refl _)) ?_;refine qQ (c1.sees (Sees.refl _)) ?_;refine go1 38 [.own] [] ?_;intro b1;refine fV 12 0 [.pu,.v (λgh=>.pointer (some ⟨b,o + 0 * 3,none⟩)),.lf 1 0,.pu,.v (λgh=>.pointer (some ⟨b,o + 1 * 3,none⟩)),.lf 0 0,.v (λgh=>.tuple #[Vi p.1,Vi p.2]),.pu,.pu,.pu,.pu,.pu] [] (trivial) ?_ ?_
 ·intro R hT hA hmono;refine Aj (bZ hT hA b o 2 cap 0 (λgh=>.pointer (some ⟨b,o + 0 * 3,none⟩)) ((by decide))) ?_;refine Aj (bZ hT hA b o 2 cap 1 (λgh=>.pointer (some ⟨b,o + 1 * 3,none⟩)) ((by decide))) ?_;refine Aj (t_v hT hA hmono (k:=196) (args:=(λgh=>#[.agg #[Vi x.k,Vi x.n,.string x.s],.agg #[Vi y.k,Vi y.n,.string y.s]])) (f:=λgh=>.tuple #[Vi p.1,Vi p.2]) (λgh H sH fH lent=>hcp _)) ?_
  trivial
 rintro W2 S3 -;refine go0 8 [] [] ?_
 by_cases he:x.k=y.k
 ·have e:=hp.1 he;refine tQ (t:=p.2 != 0) ((by rw [e]; rfl)) ?_;refine go0 27 [] [] ?_
  by_cases hc:p.1=0
  ·refine gV 54 (v:=.bool (p.1 == 0)) (v':=.bool true) (Dj Value.bool (Xj.2 hc)) ?_;refine go0 14 [.cl 197 #[.bool true] (.agg #[Vi 2,Vi 1,Ve]),.b 0 0] [] ?_ (ho:=(Aj (λH sH=>gZ true _) (trivial)));rw [e] at hc;have hb:cmpB 13 (cmpV x.n y.n x.s.toList y.s.toList)=true:=by simp only at hc; simp [cmpB,hc]
   refine hQ.to [.agg #[Vi 2,Vi 1,Ve]] (λH sH=>?_) (ix:=[0]);rw [hap,Cj he,hb]; rfl
  ·skip;refine gV 54 (v:=.bool (p.1 == 0)) (v':=.bool false) (Dj Value.bool (Lj.2 hc)) ?_
   refine go0 14 [.cl 197 #[.bool false] (.agg #[Vi 2,Vi 0,Ve]),.b 0 0] [] ?_ (ho:=(Aj (λH sH=>gZ false _) (trivial)));rw [e] at hc;have hb:cmpB 13 (cmpV x.n y.n x.s.toList y.s.toList)=false:=by simp only at hc; simp [cmpB,hc]
   refine hQ.to [.agg #[Vi 2,Vi 0,Ve]] (λH sH=>?_) (ix:=[0]);rw [hap,Cj he,hb]; rfl
 ·skip;have e:=hp.2 he
  refine jV (t:=p.2 != 0) ((by rw [e]; rfl)) ?_;refine go0 11 [.cl 157 #[Vi p.2] (.agg #[Vi 5,Vi p.2,Ve]),.b 0 0] [] ?_ (ho:=(Aj (λH sH=>vK _ _) (trivial)));refine hQ.to [.agg #[Vi 5,Vi p.2,Ve]] (λH sH=>?_) (ix:=[0]);rw [hap,Bj he,e]; rfl
theorem apply_14 (x y:Vl) (sl:Value) (h:Vw) (hr:RS h 3 sl (vrows [x,y])) (hk:∀ v∈[x,y],v.known):C0 Tryz.prog 161 #[Vi 14,sl] h (λv _=>v=(lJ 14 [x,y]).val):=by
 obtain ⟨b,o,cap,rfl,c0⟩:=row0 hr;have kx:=hk x (by simp);have ky:=hk y (by simp);have c1:Cells h b (o + 1 * 3) y.cells:=hr.cell (i:=1) rfl;have hcp:=λH=>cmp2 x y H kx ky;have hap:lJ 14 [x,y]=if x.k=y.k then truthV (cmpB 14 (cmpV x.n y.n x.s.toList y.s.toList)) else uK 9:=by unfold lJ; rw [Cj (by omega),hd0,hd1]
 have hp:(x.k=y.k -> cmpP x y=(cmpV x.n y.n x.s.toList y.s.toList,0)) /\ (x.k≠y.k -> cmpP x y=(0,9)):=⟨λe=>Cj e,λe=>Bj e⟩;generalize cmpP x y=p at *;refine pQ Tryz.func161 λhbx hbad Q hQ=>?_;refine qQ (c0.sees (Sees.refl _)) ?_;refine qQ (c1.sees (Sees.refl _)) ?_;refine go1 41 [.own] [] ?_;intro b1;refine fV 12 0 [.pu,.v (λgh=>.pointer (some ⟨b,o + 0 * 3,none⟩)),.lf 1 0,.pu,.v (λgh=>.pointer (some ⟨b,o + 1 * 3,none⟩)),.lf 0 0,.v (λgh=>.tuple #[Vi p.1,Vi p.2]),.pu,.pu,.pu,.pu,.pu] [] (trivial) ?_ ?_
 ·intro R hT hA hmono;refine Aj (bZ hT hA b o 2 cap 0 (λgh=>.pointer (some ⟨b,o + 0 * 3,none⟩)) ((by decide))) ?_;refine Aj (bZ hT hA b o 2 cap 1 (λgh=>.pointer (some ⟨b,o + 1 * 3,none⟩)) ((by decide))) ?_;refine Aj (t_v hT hA hmono (k:=196) (args:=(λgh=>#[.agg #[Vi x.k,Vi x.n,.string x.s],.agg #[Vi y.k,Vi y.n,.string y.s]])) (f:=λgh=>.tuple #[Vi p.1,Vi p.2]) (λgh H sH fH lent=>hcp _)) ?_
  trivial
 rintro W2 S3 -;refine go0 8 [] [] ?_
 by_cases he:x.k=y.k
 ·have e:=hp.1 he;refine tQ (t:=p.2 != 0) ((by rw [e]; rfl)) ?_;refine go0 34 [] [] ?_
  by_cases hc:p.1≠0
  ·refine gV 61 (v:=.bool (p.1 != 0)) (v':=.bool true) (Dj Value.bool (Hk.2 hc)) ?_;refine go0 7 [.cl 197 #[.bool true] (.agg #[Vi 2,Vi 1,Ve]),.b 0 0] [] ?_ (ho:=(Aj (λH sH=>gZ true _) (trivial)));rw [e] at hc;have hb:cmpB 14 (cmpV x.n y.n x.s.toList y.s.toList)=true:=by simp only at hc; simp [cmpB,hc]
   refine hQ.to [.agg #[Vi 2,Vi 1,Ve]] (λH sH=>?_) (ix:=[0]);rw [hap,Cj he,hb]; rfl
  ·skip;refine gV 61 (v:=.bool (p.1 != 0)) (v':=.bool false) (Dj Value.bool (Rk.2 (Decidable.not_not.1 hc))) ?_
   refine go0 7 [.cl 197 #[.bool false] (.agg #[Vi 2,Vi 0,Ve]),.b 0 0] [] ?_ (ho:=(Aj (λH sH=>gZ false _) (trivial)));rw [e] at hc;have hb:cmpB 14 (cmpV x.n y.n x.s.toList y.s.toList)=false:=by simp only at hc; simp [cmpB,Decidable.not_not.1 hc]
   refine hQ.to [.agg #[Vi 2,Vi 0,Ve]] (λH sH=>?_) (ix:=[0]);rw [hap,Cj he,hb]; rfl
 ·skip;have e:=hp.2 he
  refine jV (t:=p.2 != 0) ((by rw [e]; rfl)) ?_;refine go0 11 [.cl 157 #[Vi p.2] (.agg #[Vi 5,Vi p.2,Ve]),.b 0 0] [] ?_ (ho:=(Aj (λH sH=>vK _ _) (trivial)));refine hQ.to [.agg #[Vi 5,Vi p.2,Ve]] (λH sH=>?_) (ix:=[0]);rw [hap,Bj he,e]; rfl
theorem apply_4 (x:Vl) (sl:Value) (h:Vw) (hr:RS h 3 sl (vrows [x])) (hk:∀ v∈[x],v.known):C0 Tryz.prog 161 #[Vi 4,sl] h (λv _=>v=(lJ 4 [x]).val):=by
 obtain ⟨b,o,cap,rfl,c0⟩:=row0 hr;have kx:=hk x (by simp);have hki:=λH hq kd=>uV [x] (.slice (some ⟨b,o,none⟩) 1 cap) kd H hq (by simp)
 by_cases hq:tV [x] 2=true
 ·rw [show lJ 4 [x]=truthV (x.n == 0) from by unfold lJ; rw [Bj (by omega),Cj rfl,hd0,Cj hq]];refine pQ Tryz.func161 λhbx hbad Q hQ=>?_;refine qQ (c0.sees (Sees.refl _)) ?_;refine go1 72 [.own,.cl 198 #[.slice (some ⟨b,o,none⟩) 1 cap,Vi 2] (.bool true),.ix b o 1 cap 0,.f 0 1,.cl 197 #[.bool (x.n == 0)] (.agg #[Vi 2,Vi (if (x.n == 0)=true then 1 else 0),Ve]),.b 0 0] [] ?_ (ho:=(Aj (λH sH=>hq ▸ hki _ (hr.sees sH) 2) (Aj ((by decide)) (Aj (λH sH=>gZ (x.n == 0) _) (trivial)))));intro b1;refine hQ.to [.agg #[Vi 2,Vi (if (x.n == 0)=true then 1 else 0),Ve]] (λH sH=>?_) (ix:=[0]);exact rfl
 ·have hq':tV [x] 2=false:=by simpa using hq
  rw [show lJ 4 [x]=uK 9 from by unfold lJ; rw [Bj (by omega),Cj rfl,hd0,Bj hq]];refine pQ Tryz.func161 λhbx hbad Q hQ=>?_;refine qQ (c0.sees (Sees.refl _)) ?_;refine go1 66 [.own,.cl 198 #[.slice (some ⟨b,o,none⟩) 1 cap,Vi 2] (.bool false),.cl 157 #[Vi 9] (.agg #[Vi 5,Vi 9,Ve]),.b 0 0] [] ?_ (ho:=(Aj (λH sH=>hq' ▸ hki _ (hr.sees sH) 2) (Aj (λH sH=>vK 9 _) (trivial))));intro b1;refine hQ.to [.agg #[Vi 5,Vi 9,Ve]] (λH sH=>?_) (ix:=[0]);exact rfl
theorem apply_18 (x:Vl) (sl:Value) (h:Vw) (hr:RS h 3 sl (vrows [x])) (hk:∀ v∈[x],v.known):C0 Tryz.prog 161 #[Vi 18,sl] h (λv _=>v=(lJ 18 [x]).val):=by
 obtain ⟨b,o,cap,rfl,c0⟩:=row0 hr;have kx:=hk x (by simp);have hki:=λH hq kd=>uV [x] (.slice (some ⟨b,o,none⟩) 1 cap) kd H hq (by simp)
 by_cases hq:tV [x] 3=true
 ·have hsz:=known_texts hk hq x (by simp);rw [show lJ 18 [x]=⟨1,(x.s.size:Int),⟨#[]⟩⟩ from by unfold lJ; rw [Bj (by omega),Bj (by omega),Cj rfl,hd0,Cj hq]];refine pQ Tryz.func161 λhbx hbad Q hQ=>?_;refine qQ (c0.sees (Sees.refl _)) ?_;refine go1 95 [.own,.cl 198 #[.slice (some ⟨b,o,none⟩) 1 cap,Vi 3] (.bool true),.ix b o 1 cap 0,.f 0 2,.b 0 0] [] ?_ (ho:=(Aj (λH sH=>hq ▸ hki _ (hr.sees sH) 3) (Aj ((by decide)) (trivial))));intro b1;refine hQ.to [.agg #[Vi 1,Vi (x.s.size:Int),Ve]] (λH sH=>?_) (ix:=[0]);exact rfl
 ·have hq':tV [x] 3=false:=by simpa using hq
  rw [show lJ 18 [x]=uK 9 from by unfold lJ; rw [Bj (by omega),Bj (by omega),Cj rfl,hd0,Bj hq]];refine pQ Tryz.func161 λhbx hbad Q hQ=>?_;refine qQ (c0.sees (Sees.refl _)) ?_;refine go1 80 [.own,.cl 198 #[.slice (some ⟨b,o,none⟩) 1 cap,Vi 3] (.bool false),.cl 157 #[Vi 9] (.agg #[Vi 5,Vi 9,Ve]),.b 0 0] [] ?_ (ho:=(Aj (λH sH=>hq' ▸ hki _ (hr.sees sH) 3) (Aj (λH sH=>vK 9 _) (trivial))));intro b1;refine hQ.to [.agg #[Vi 5,Vi 9,Ve]] (λH sH=>?_) (ix:=[0]);exact rfl
theorem apply_10 (x y:Vl) (sl:Value) (h:Vw) (hr:RS h 3 sl (vrows [x,y])) (hk:∀ v∈[x,y],v.known):C0 Tryz.prog 161 #[Vi 10,sl] h (λv _=>v=(lJ 10 [x,y]).val):=by
 obtain ⟨b,o,cap,rfl,c0⟩:=row0 hr;have kx:=hk x (by simp);have ky:=hk y (by simp);have c1:Cells h b (o + 1 * 3) y.cells:=hr.cell (i:=1) rfl;have hki:=λH hq kd=>uV [x,y] (.slice (some ⟨b,o,none⟩) 2 cap) kd H hq (by simp)
 by_cases hq:tV [x,y] 3=true
 ·have hsx:=known_texts hk hq x (by simp);have hsy:=known_texts hk hq y (by simp);rw [show lJ 10 [x,y]=joinV x y from by unfold lJ; rw [Bj (by omega),Bj (by omega),Bj (by omega),Cj rfl,hd0,hd1,Cj hq]]
  by_cases hc:40 < x.s.size + y.s.size
  ·rw [show joinV x y=uK 1 from Cj hc];refine pQ Tryz.func161 λhbx hbad Q hQ=>?_;refine qQ (c0.sees (Sees.refl _)) ?_;refine qQ (c1.sees (Sees.refl _)) ?_;refine go1 81 [.own,.cl 198 #[.slice (some ⟨b,o,none⟩) 2 cap,Vi 3] (.bool true)] [] ?_ (ho:=(Aj (λH sH=>hq ▸ hki _ (hr.sees sH) 3) (trivial)));intro b1;refine fV 12 0 [.pu,.v (λgh=>.pointer (some ⟨b,o + 0 * 3,none⟩)),.pu,.lf 1 2,.pu,.pu,.v (λgh=>.pointer (some ⟨b,o + 1 * 3,none⟩)),.pu,.lf 0 2,.pu,.v (λgh=>Vi ((x.s.size:Int) + (y.s.size:Int))),.pu] [] (trivial) ?_ ?_
   ·intro R hT hA hmono;refine Aj (bZ hT hA b o 2 cap 0 (λgh=>.pointer (some ⟨b,o + 0 * 3,none⟩)) ((by decide))) ?_;refine Aj (bZ hT hA b o 2 cap 1 (λgh=>.pointer (some ⟨b,o + 1 * 3,none⟩)) ((by decide))) ?_;refine Aj (t_p hT hA (λgh=>Vi ((x.s.size:Int) + (y.s.size:Int))) (λgh w=>run_eq (by kernel_rfl) (jJ (by omega) (by omega)))) ?_
    trivial
   rintro W2 S3 -;refine go0 1 [] [] ?_;refine jV (t:=decide (((x.s.size:Int) + (y.s.size:Int)) > 40)) (Jj (by omega)) ?_;refine go0 10 [.cl 157 #[Vi 1] (.agg #[Vi 5,Vi 1,Ve]),.b 0 0] [] ?_ (ho:=(Aj (λH sH=>vK 1 _) (trivial)));refine hQ.to [.agg #[Vi 5,Vi 1,Ve]] (λH sH=>?_) (ix:=[0]);exact rfl
  ·rw [show joinV x y=⟨3,0,x.s++y.s⟩ from Bj hc];refine pQ Tryz.func161 λhbx hbad Q hQ=>?_;refine qQ (c0.sees (Sees.refl _)) ?_;refine qQ (c1.sees (Sees.refl _)) ?_;refine go1 81 [.own,.cl 198 #[.slice (some ⟨b,o,none⟩) 2 cap,Vi 3] (.bool true)] [] ?_ (ho:=(Aj (λH sH=>hq ▸ hki _ (hr.sees sH) 3) (trivial)));intro b1;refine fV 12 0 [.pu,.v (λgh=>.pointer (some ⟨b,o + 0 * 3,none⟩)),.pu,.lf 1 2,.pu,.pu,.v (λgh=>.pointer (some ⟨b,o + 1 * 3,none⟩)),.pu,.lf 0 2,.pu,.v (λgh=>Vi ((x.s.size:Int) + (y.s.size:Int))),.pu] [] (trivial) ?_ ?_
   ·intro R hT hA hmono;refine Aj (bZ hT hA b o 2 cap 0 (λgh=>.pointer (some ⟨b,o + 0 * 3,none⟩)) ((by decide))) ?_;refine Aj (bZ hT hA b o 2 cap 1 (λgh=>.pointer (some ⟨b,o + 1 * 3,none⟩)) ((by decide))) ?_;refine Aj (t_p hT hA (λgh=>Vi ((x.s.size:Int) + (y.s.size:Int))) (λgh w=>run_eq (by kernel_rfl) (jJ (by omega) (by omega)))) ?_
    trivial
   rintro W2 S3 -;refine go0 1 [] [] ?_;refine tQ (t:=decide (((x.s.size:Int) + (y.s.size:Int)) > 40)) (Kj (by omega)) ?_;refine go0 3 [] [] ?_;refine fV 11 0 [.pu,.v (λgh=>.pointer (some ⟨b,o + 0 * 3,none⟩)),.pu,.lf 1 2,.pu,.v (λgh=>.pointer (some ⟨b,o + 1 * 3,none⟩)),.pu,.lf 0 2,.v (λgh=>.string (x.s++y.s)),.pu,.st 0 0] [] (trivial) ?_ ?_
   ·intro R hT hA hmono;refine Aj (bZ hT hA b o 2 cap 0 (λgh=>.pointer (some ⟨b,o + 0 * 3,none⟩)) ((by decide))) ?_;refine Aj (bZ hT hA b o 2 cap 1 (λgh=>.pointer (some ⟨b,o + 1 * 3,none⟩)) ((by decide))) ?_;refine Aj (t_p hT hA (λgh=>.string (x.s++y.s)) (λgh w=>run_bin (op:=.add) (t:=9) (x:=(.tmp 106)) (y:=(.tmp 110)) (yt:=9) (va:=.string x.s) (vb:=.string y.s) (by kernel_rfl) (by kernel_rfl) (by kernel_rfl) (by kernel_rfl) (run_cat (by omega)))) ?_
    trivial
   rintro W4 S5 -;refine go0 4 [] [] ?_;refine hQ.to [.agg #[Vi 3,Vi 0,.string (x.s++y.s)]] (λH sH=>?_) (ix:=[0]);exact rfl
 ·have hq':tV [x,y] 3=false:=by simpa using hq
  rw [show lJ 10 [x,y]=uK 9 from by unfold lJ; rw [Bj (by omega),Bj (by omega),Bj (by omega),Cj rfl,hd0,hd1,Bj hq]];refine pQ Tryz.func161 λhbx hbad Q hQ=>?_;refine qQ (c0.sees (Sees.refl _)) ?_;refine qQ (c1.sees (Sees.refl _)) ?_;refine go1 77 [.own,.cl 198 #[.slice (some ⟨b,o,none⟩) 2 cap,Vi 3] (.bool false),.cl 157 #[Vi 9] (.agg #[Vi 5,Vi 9,Ve]),.b 0 0] [] ?_ (ho:=(Aj (λH sH=>hq' ▸ hki _ (hr.sees sH) 3) (Aj (λH sH=>vK 9 _) (trivial))));intro b1;refine hQ.to [.agg #[Vi 5,Vi 9,Ve]] (λH sH=>?_) (ix:=[0]);exact rfl
theorem apply_3 (x:Vl) (sl:Value) (h:Vw) (hr:RS h 3 sl (vrows [x])) (hk:∀ v∈[x],v.known):C0 Tryz.prog 161 #[Vi 3,sl] h (λv _=>v=(lJ 3 [x]).val):=by
 obtain ⟨b,o,cap,rfl,c0⟩:=row0 hr;have kx:=hk x (by simp);have hki:=λH hq=>uV [x] (.slice (some ⟨b,o,none⟩) 1 cap) 1 H hq (by simp);have hap:lJ 3 [x]=if tV [x] 1=true then nrV 9 0 x.n else uK 9:=by unfold lJ; rw [Bj (by omega),Bj (by omega),Bj (by omega),Bj (by omega),Cj rfl,hd0]
 have hnr:nrV 9 0 x.n=if (sW 9 0 x.n).2=0 then ⟨1,(sW 9 0 x.n).1,⟨#[]⟩⟩ else uK (sW 9 0 x.n).2:=rfl;rw [hnr] at hap;have hl:=λq=>vV (l:=[x]) hk q;have hn:=λ(q:tV [x] 1=true) H=>num_any 9 0 x.n H (by unfold Lim; omega) (hl q x (by simp));generalize sW 9 0 x.n=r at *;generalize tV [x] 1=kv at *;refine pQ Tryz.func161 λhbx hbad Q hQ=>?_;refine qQ (c0.sees (Sees.refl _)) ?_;refine go1 72 [.own,.cl 198 #[.slice (some ⟨b,o,none⟩) 1 cap,Vi 1] (.bool kv)] [] ?_ (ho:=(Aj (λH sH=>hki _ (hr.sees sH)) (trivial)));intro b1
 by_cases hq:kv=true
 ·skip;refine tQ (t := !kv) ((by rw [hq]; rfl)) ?_
  refine go0 4 [] [] ?_;refine g_mapmake ?_; intro b2;refine aV 0 b2 (es:=[]) (td:=.int .i64) (key:=Vi 5) (by kernel_rfl) ?_;refine aV 0 b2 (es:=[(Vi 5,.func (.func 199) #[] #[])]) (td:=.int .i64) (key:=Vi 6) (by kernel_rfl) ?_;refine aV 0 b2 (es:=[(Vi 5,.func (.func 199) #[] #[]),(Vi 6,.func (.func 200) #[] #[])]) (td:=.int .i64) (key:=Vi 7) (by kernel_rfl) ?_;refine aV 0 b2 (es:=[(Vi 5,.func (.func 199) #[] #[]),(Vi 6,.func (.func 200) #[] #[]),(Vi 7,.func (.func 201) #[] #[])]) (td:=.int .i64) (key:=Vi 8) (by kernel_rfl) ?_;refine aV 0 b2 (es:=[(Vi 5,.func (.func 199) #[] #[]),(Vi 6,.func (.func 200) #[] #[]),(Vi 7,.func (.func 201) #[] #[]),(Vi 8,.func (.func 202) #[] #[])]) (td:=.int .i64) (key:=Vi 9) (by kernel_rfl) ?_;refine go0 2 [] [] ?_;refine g_mapget 0 b2 (es:=[(Vi 5,.func (.func 199) #[] #[]),(Vi 6,.func (.func 200) #[] #[]),(Vi 7,.func (.func 201) #[] #[]),(Vi 8,.func (.func 202) #[] #[]),(Vi 9,.func (.func 203) #[] #[])]) (td:=.int .i64) (key:=Vi 3) (r:=none) .nilFunc .nilFunc (by kernel_rfl) ?_;refine go0 4 [] [] ?_;refine fV 13 0 [.pu,.v (λgh=>.pointer (some ⟨b,o + 0 * 3,none⟩)),.pu,.lf 0 1,.pu,.pu,.pu,.pu,.v (λgh=>.pointer (some ⟨b,o + 0 * 3,none⟩)),.pu,.lf 0 1,.pu,.pu] [] (trivial) ?_ ?_
  ·intro R hT hA hmono;refine Aj (bZ hT hA b o 1 cap 0 (λgh=>.pointer (some ⟨b,o + 0 * 3,none⟩)) ((by decide))) ?_;refine Aj (bZ hT hA b o 1 cap 0 (λgh=>.pointer (some ⟨b,o + 0 * 3,none⟩)) ((by decide))) ?_
   trivial
  rintro W3 S4 -;refine go0 34 [.cl 203 #[Vi 0,Vi x.n] (.tuple #[Vi r.1,Vi r.2])] [] ?_ (ho:=(Aj (λH sH=>hn hq _) (trivial)))
  by_cases hc:r.2=0
  ·refine tQ (t:=r.2 != 0) (Rk.2 hc) ?_;refine go0 10 [.b 1 0] [] ?_;refine hQ.to [.agg #[Vi 1,Vi r.1,Ve]] (λH sH=>?_) (ix:=[1]);rw [hap,Cj hq,Cj hc]; rfl
  ·skip;refine jV (t:=r.2 != 0) (Hk.2 hc) ?_
   refine go0 9 [.cl 157 #[Vi r.2] (.agg #[Vi 5,Vi r.2,Ve]),.b 1 0] [] ?_ (ho:=(Aj (λH sH=>vK _ _) (trivial)));refine hQ.to [.agg #[Vi 5,Vi r.2,Ve]] (λH sH=>?_) (ix:=[1]);rw [hap,Cj hq,Bj hc]; rfl
 ·skip;refine jV (t := !kv) ((by rw [show kv=false from by simpa using hq]; rfl)) ?_
  refine go0 8 [.cl 157 #[Vi 9] (.agg #[Vi 5,Vi 9,Ve]),.b 0 0] [] ?_ (ho:=(Aj (λH sH=>vK 9 _) (trivial)));refine hQ.to [.agg #[Vi 5,Vi 9,Ve]] (λH sH=>?_) (ix:=[0]);rw [hap,Bj hq]; rfl
theorem apply_5 (x y:Vl) (sl:Value) (h:Vw) (hr:RS h 3 sl (vrows [x,y])) (hk:∀ v∈[x,y],v.known):C0 Tryz.prog 161 #[Vi 5,sl] h (λv _=>v=(lJ 5 [x,y]).val):=by
 obtain ⟨b,o,cap,rfl,c0⟩:=row0 hr;have kx:=hk x (by simp);have ky:=hk y (by simp);have c1:Cells h b (o + 1 * 3) y.cells:=hr.cell (i:=1) rfl;have hki:=λH hq=>uV [x,y] (.slice (some ⟨b,o,none⟩) 2 cap) 1 H hq (by simp);have hap:lJ 5 [x,y]=if tV [x,y] 1=true then nrV 5 x.n y.n else uK 9:=by unfold lJ; rw [Bj (by omega),Bj (by omega),Bj (by omega),Bj (by omega),Bj (by omega),hd0,hd1]
 have hnr:nrV 5 x.n y.n=if (sW 5 x.n y.n).2=0 then ⟨1,(sW 5 x.n y.n).1,⟨#[]⟩⟩ else uK (sW 5 x.n y.n).2:=rfl;rw [hnr] at hap;have hl:=λq=>vV (l:=[x,y]) hk q;have hn:=λ(q:tV [x,y] 1=true) H=>num_any 5 x.n y.n H (hl q x (by simp)) (hl q y (by simp));generalize sW 5 x.n y.n=r at *;generalize tV [x,y] 1=kv at *;refine pQ Tryz.func161 λhbx hbad Q hQ=>?_;refine qQ (c0.sees (Sees.refl _)) ?_;refine qQ (c1.sees (Sees.refl _)) ?_;refine go1 72 [.own,.cl 198 #[.slice (some ⟨b,o,none⟩) 2 cap,Vi 1] (.bool kv)] [] ?_ (ho:=(Aj (λH sH=>hki _ (hr.sees sH)) (trivial)));intro b1
 by_cases hq:kv=true
 ·skip;refine tQ (t := !kv) ((by rw [hq]; rfl)) ?_
  refine go0 4 [] [] ?_;refine g_mapmake ?_; intro b2;refine aV 0 b2 (es:=[]) (td:=.int .i64) (key:=Vi 5) (by kernel_rfl) ?_;refine aV 0 b2 (es:=[(Vi 5,.func (.func 199) #[] #[])]) (td:=.int .i64) (key:=Vi 6) (by kernel_rfl) ?_;refine aV 0 b2 (es:=[(Vi 5,.func (.func 199) #[] #[]),(Vi 6,.func (.func 200) #[] #[])]) (td:=.int .i64) (key:=Vi 7) (by kernel_rfl) ?_;refine aV 0 b2 (es:=[(Vi 5,.func (.func 199) #[] #[]),(Vi 6,.func (.func 200) #[] #[]),(Vi 7,.func (.func 201) #[] #[])]) (td:=.int .i64) (key:=Vi 8) (by kernel_rfl) ?_;refine aV 0 b2 (es:=[(Vi 5,.func (.func 199) #[] #[]),(Vi 6,.func (.func 200) #[] #[]),(Vi 7,.func (.func 201) #[] #[]),(Vi 8,.func (.func 202) #[] #[])]) (td:=.int .i64) (key:=Vi 9) (by kernel_rfl) ?_;refine go0 2 [] [] ?_;refine g_mapget 0 b2 (es:=[(Vi 5,.func (.func 199) #[] #[]),(Vi 6,.func (.func 200) #[] #[]),(Vi 7,.func (.func 201) #[] #[]),(Vi 8,.func (.func 202) #[] #[]),(Vi 9,.func (.func 203) #[] #[])]) (td:=.int .i64) (key:=Vi 5) (r:=some (0,.func (.func 199) #[] #[])) .nilFunc (.func (.func 199) #[] #[]) (by kernel_rfl) ?_;refine go0 4 [] [] ?_;refine fV 13 0 [.pu,.v (λgh=>.pointer (some ⟨b,o + 0 * 3,none⟩)),.pu,.lf 1 1,.pu,.pu,.pu,.pu,.v (λgh=>.pointer (some ⟨b,o + 1 * 3,none⟩)),.pu,.lf 0 1,.pu,.pu] [] (trivial) ?_ ?_
  ·intro R hT hA hmono;refine Aj (bZ hT hA b o 2 cap 0 (λgh=>.pointer (some ⟨b,o + 0 * 3,none⟩)) ((by decide))) ?_;refine Aj (bZ hT hA b o 2 cap 1 (λgh=>.pointer (some ⟨b,o + 1 * 3,none⟩)) ((by decide))) ?_
   trivial
  rintro W3 S4 -;refine go0 31 [.cl 199 #[Vi x.n,Vi y.n] (.tuple #[Vi r.1,Vi r.2])] [] ?_ (ho:=(Aj (λH sH=>hn hq _) (trivial)))
  by_cases hc:r.2=0
  ·refine tQ (t:=r.2 != 0) (Rk.2 hc) ?_;refine go0 10 [.b 1 0] [] ?_;refine hQ.to [.agg #[Vi 1,Vi r.1,Ve]] (λH sH=>?_) (ix:=[1]);rw [hap,Cj hq,Cj hc]; rfl
  ·skip;refine jV (t:=r.2 != 0) (Hk.2 hc) ?_
   refine go0 9 [.cl 157 #[Vi r.2] (.agg #[Vi 5,Vi r.2,Ve]),.b 1 0] [] ?_ (ho:=(Aj (λH sH=>vK _ _) (trivial)));refine hQ.to [.agg #[Vi 5,Vi r.2,Ve]] (λH sH=>?_) (ix:=[1]);rw [hap,Cj hq,Bj hc]; rfl
 ·skip;refine jV (t := !kv) ((by rw [show kv=false from by simpa using hq]; rfl)) ?_
  refine go0 8 [.cl 157 #[Vi 9] (.agg #[Vi 5,Vi 9,Ve]),.b 0 0] [] ?_ (ho:=(Aj (λH sH=>vK 9 _) (trivial)));refine hQ.to [.agg #[Vi 5,Vi 9,Ve]] (λH sH=>?_) (ix:=[0]);rw [hap,Bj hq]; rfl
theorem apply_6 (x y:Vl) (sl:Value) (h:Vw) (hr:RS h 3 sl (vrows [x,y])) (hk:∀ v∈[x,y],v.known):C0 Tryz.prog 161 #[Vi 6,sl] h (λv _=>v=(lJ 6 [x,y]).val):=by
 obtain ⟨b,o,cap,rfl,c0⟩:=row0 hr;have kx:=hk x (by simp);have ky:=hk y (by simp);have c1:Cells h b (o + 1 * 3) y.cells:=hr.cell (i:=1) rfl;have hki:=λH hq=>uV [x,y] (.slice (some ⟨b,o,none⟩) 2 cap) 1 H hq (by simp);have hap:lJ 6 [x,y]=if tV [x,y] 1=true then nrV 6 x.n y.n else uK 9:=by unfold lJ; rw [Bj (by omega),Bj (by omega),Bj (by omega),Bj (by omega),Bj (by omega),hd0,hd1]
 have hnr:nrV 6 x.n y.n=if (sW 6 x.n y.n).2=0 then ⟨1,(sW 6 x.n y.n).1,⟨#[]⟩⟩ else uK (sW 6 x.n y.n).2:=rfl;rw [hnr] at hap;have hl:=λq=>vV (l:=[x,y]) hk q;have hn:=λ(q:tV [x,y] 1=true) H=>num_any 6 x.n y.n H (hl q x (by simp)) (hl q y (by simp));generalize sW 6 x.n y.n=r at *;generalize tV [x,y] 1=kv at *;refine pQ Tryz.func161 λhbx hbad Q hQ=>?_;refine qQ (c0.sees (Sees.refl _)) ?_;refine qQ (c1.sees (Sees.refl _)) ?_;refine go1 72 [.own,.cl 198 #[.slice (some ⟨b,o,none⟩) 2 cap,Vi 1] (.bool kv)] [] ?_ (ho:=(Aj (λH sH=>hki _ (hr.sees sH)) (trivial)));intro b1
 by_cases hq:kv=true
 ·skip;refine tQ (t := !kv) ((by rw [hq]; rfl)) ?_
  refine go0 4 [] [] ?_;refine g_mapmake ?_; intro b2;refine aV 0 b2 (es:=[]) (td:=.int .i64) (key:=Vi 5) (by kernel_rfl) ?_;refine aV 0 b2 (es:=[(Vi 5,.func (.func 199) #[] #[])]) (td:=.int .i64) (key:=Vi 6) (by kernel_rfl) ?_;refine aV 0 b2 (es:=[(Vi 5,.func (.func 199) #[] #[]),(Vi 6,.func (.func 200) #[] #[])]) (td:=.int .i64) (key:=Vi 7) (by kernel_rfl) ?_;refine aV 0 b2 (es:=[(Vi 5,.func (.func 199) #[] #[]),(Vi 6,.func (.func 200) #[] #[]),(Vi 7,.func (.func 201) #[] #[])]) (td:=.int .i64) (key:=Vi 8) (by kernel_rfl) ?_;refine aV 0 b2 (es:=[(Vi 5,.func (.func 199) #[] #[]),(Vi 6,.func (.func 200) #[] #[]),(Vi 7,.func (.func 201) #[] #[]),(Vi 8,.func (.func 202) #[] #[])]) (td:=.int .i64) (key:=Vi 9) (by kernel_rfl) ?_;refine go0 2 [] [] ?_;refine g_mapget 0 b2 (es:=[(Vi 5,.func (.func 199) #[] #[]),(Vi 6,.func (.func 200) #[] #[]),(Vi 7,.func (.func 201) #[] #[]),(Vi 8,.func (.func 202) #[] #[]),(Vi 9,.func (.func 203) #[] #[])]) (td:=.int .i64) (key:=Vi 6) (r:=some (1,.func (.func 200) #[] #[])) .nilFunc (.func (.func 200) #[] #[]) (by kernel_rfl) ?_;refine go0 4 [] [] ?_;refine fV 13 0 [.pu,.v (λgh=>.pointer (some ⟨b,o + 0 * 3,none⟩)),.pu,.lf 1 1,.pu,.pu,.pu,.pu,.v (λgh=>.pointer (some ⟨b,o + 1 * 3,none⟩)),.pu,.lf 0 1,.pu,.pu] [] (trivial) ?_ ?_
  ·intro R hT hA hmono;refine Aj (bZ hT hA b o 2 cap 0 (λgh=>.pointer (some ⟨b,o + 0 * 3,none⟩)) ((by decide))) ?_;refine Aj (bZ hT hA b o 2 cap 1 (λgh=>.pointer (some ⟨b,o + 1 * 3,none⟩)) ((by decide))) ?_
   trivial
  rintro W3 S4 -;refine go0 31 [.cl 200 #[Vi x.n,Vi y.n] (.tuple #[Vi r.1,Vi r.2])] [] ?_ (ho:=(Aj (λH sH=>hn hq _) (trivial)))
  by_cases hc:r.2=0
  ·refine tQ (t:=r.2 != 0) (Rk.2 hc) ?_;refine go0 10 [.b 1 0] [] ?_;refine hQ.to [.agg #[Vi 1,Vi r.1,Ve]] (λH sH=>?_) (ix:=[1]);rw [hap,Cj hq,Cj hc]; rfl
  ·skip;refine jV (t:=r.2 != 0) (Hk.2 hc) ?_
   refine go0 9 [.cl 157 #[Vi r.2] (.agg #[Vi 5,Vi r.2,Ve]),.b 1 0] [] ?_ (ho:=(Aj (λH sH=>vK _ _) (trivial)));refine hQ.to [.agg #[Vi 5,Vi r.2,Ve]] (λH sH=>?_) (ix:=[1]);rw [hap,Cj hq,Bj hc]; rfl
 ·skip;refine jV (t := !kv) ((by rw [show kv=false from by simpa using hq]; rfl)) ?_
  refine go0 8 [.cl 157 #[Vi 9] (.agg #[Vi 5,Vi 9,Ve]),.b 0 0] [] ?_ (ho:=(Aj (λH sH=>vK 9 _) (trivial)));refine hQ.to [.agg #[Vi 5,Vi 9,Ve]] (λH sH=>?_) (ix:=[0]);rw [hap,Bj hq]; rfl
theorem apply_7 (x y:Vl) (sl:Value) (h:Vw) (hr:RS h 3 sl (vrows [x,y])) (hk:∀ v∈[x,y],v.known):C0 Tryz.prog 161 #[Vi 7,sl] h (λv _=>v=(lJ 7 [x,y]).val):=by
 obtain ⟨b,o,cap,rfl,c0⟩:=row0 hr;have kx:=hk x (by simp);have ky:=hk y (by simp);have c1:Cells h b (o + 1 * 3) y.cells:=hr.cell (i:=1) rfl;have hki:=λH hq=>uV [x,y] (.slice (some ⟨b,o,none⟩) 2 cap) 1 H hq (by simp);have hap:lJ 7 [x,y]=if tV [x,y] 1=true then nrV 7 x.n y.n else uK 9:=by unfold lJ; rw [Bj (by omega),Bj (by omega),Bj (by omega),Bj (by omega),Bj (by omega),hd0,hd1]
 have hnr:nrV 7 x.n y.n=if (sW 7 x.n y.n).2=0 then ⟨1,(sW 7 x.n y.n).1,⟨#[]⟩⟩ else uK (sW 7 x.n y.n).2:=rfl;rw [hnr] at hap;have hl:=λq=>vV (l:=[x,y]) hk q;have hn:=λ(q:tV [x,y] 1=true) H=>num_any 7 x.n y.n H (hl q x (by simp)) (hl q y (by simp));generalize sW 7 x.n y.n=r at *;generalize tV [x,y] 1=kv at *;refine pQ Tryz.func161 λhbx hbad Q hQ=>?_;refine qQ (c0.sees (Sees.refl _)) ?_;refine qQ (c1.sees (Sees.refl _)) ?_;refine go1 72 [.own,.cl 198 #[.slice (some ⟨b,o,none⟩) 2 cap,Vi 1] (.bool kv)] [] ?_ (ho:=(Aj (λH sH=>hki _ (hr.sees sH)) (trivial)));intro b1
 by_cases hq:kv=true
 ·skip;refine tQ (t := !kv) ((by rw [hq]; rfl)) ?_
  refine go0 4 [] [] ?_;refine g_mapmake ?_; intro b2;refine aV 0 b2 (es:=[]) (td:=.int .i64) (key:=Vi 5) (by kernel_rfl) ?_;refine aV 0 b2 (es:=[(Vi 5,.func (.func 199) #[] #[])]) (td:=.int .i64) (key:=Vi 6) (by kernel_rfl) ?_;refine aV 0 b2 (es:=[(Vi 5,.func (.func 199) #[] #[]),(Vi 6,.func (.func 200) #[] #[])]) (td:=.int .i64) (key:=Vi 7) (by kernel_rfl) ?_;refine aV 0 b2 (es:=[(Vi 5,.func (.func 199) #[] #[]),(Vi 6,.func (.func 200) #[] #[]),(Vi 7,.func (.func 201) #[] #[])]) (td:=.int .i64) (key:=Vi 8) (by kernel_rfl) ?_;refine aV 0 b2 (es:=[(Vi 5,.func (.func 199) #[] #[]),(Vi 6,.func (.func 200) #[] #[]),(Vi 7,.func (.func 201) #[] #[]),(Vi 8,.func (.func 202) #[] #[])]) (td:=.int .i64) (key:=Vi 9) (by kernel_rfl) ?_;refine go0 2 [] [] ?_;refine g_mapget 0 b2 (es:=[(Vi 5,.func (.func 199) #[] #[]),(Vi 6,.func (.func 200) #[] #[]),(Vi 7,.func (.func 201) #[] #[]),(Vi 8,.func (.func 202) #[] #[]),(Vi 9,.func (.func 203) #[] #[])]) (td:=.int .i64) (key:=Vi 7) (r:=some (2,.func (.func 201) #[] #[])) .nilFunc (.func (.func 201) #[] #[]) (by kernel_rfl) ?_;refine go0 4 [] [] ?_;refine fV 13 0 [.pu,.v (λgh=>.pointer (some ⟨b,o + 0 * 3,none⟩)),.pu,.lf 1 1,.pu,.pu,.pu,.pu,.v (λgh=>.pointer (some ⟨b,o + 1 * 3,none⟩)),.pu,.lf 0 1,.pu,.pu] [] (trivial) ?_ ?_
  ·intro R hT hA hmono;refine Aj (bZ hT hA b o 2 cap 0 (λgh=>.pointer (some ⟨b,o + 0 * 3,none⟩)) ((by decide))) ?_;refine Aj (bZ hT hA b o 2 cap 1 (λgh=>.pointer (some ⟨b,o + 1 * 3,none⟩)) ((by decide))) ?_
   trivial
  rintro W3 S4 -;refine go0 31 [.cl 201 #[Vi x.n,Vi y.n] (.tuple #[Vi r.1,Vi r.2])] [] ?_ (ho:=(Aj (λH sH=>hn hq _) (trivial)))
  by_cases hc:r.2=0
  ·refine tQ (t:=r.2 != 0) (Rk.2 hc) ?_;refine go0 10 [.b 1 0] [] ?_;refine hQ.to [.agg #[Vi 1,Vi r.1,Ve]] (λH sH=>?_) (ix:=[1]);rw [hap,Cj hq,Cj hc]; rfl
  ·skip;refine jV (t:=r.2 != 0) (Hk.2 hc) ?_
   refine go0 9 [.cl 157 #[Vi r.2] (.agg #[Vi 5,Vi r.2,Ve]),.b 1 0] [] ?_ (ho:=(Aj (λH sH=>vK _ _) (trivial)));refine hQ.to [.agg #[Vi 5,Vi r.2,Ve]] (λH sH=>?_) (ix:=[1]);rw [hap,Cj hq,Bj hc]; rfl
 ·skip;refine jV (t := !kv) ((by rw [show kv=false from by simpa using hq]; rfl)) ?_
  refine go0 8 [.cl 157 #[Vi 9] (.agg #[Vi 5,Vi 9,Ve]),.b 0 0] [] ?_ (ho:=(Aj (λH sH=>vK 9 _) (trivial)));refine hQ.to [.agg #[Vi 5,Vi 9,Ve]] (λH sH=>?_) (ix:=[0]);rw [hap,Bj hq]; rfl
theorem apply_8 (x y:Vl) (sl:Value) (h:Vw) (hr:RS h 3 sl (vrows [x,y])) (hk:∀ v∈[x,y],v.known):C0 Tryz.prog 161 #[Vi 8,sl] h (λv _=>v=(lJ 8 [x,y]).val):=by
 obtain ⟨b,o,cap,rfl,c0⟩:=row0 hr;have kx:=hk x (by simp);have ky:=hk y (by simp);have c1:Cells h b (o + 1 * 3) y.cells:=hr.cell (i:=1) rfl;have hki:=λH hq=>uV [x,y] (.slice (some ⟨b,o,none⟩) 2 cap) 1 H hq (by simp);have hap:lJ 8 [x,y]=if tV [x,y] 1=true then nrV 8 x.n y.n else uK 9:=by unfold lJ; rw [Bj (by omega),Bj (by omega),Bj (by omega),Bj (by omega),Bj (by omega),hd0,hd1]
 have hnr:nrV 8 x.n y.n=if (sW 8 x.n y.n).2=0 then ⟨1,(sW 8 x.n y.n).1,⟨#[]⟩⟩ else uK (sW 8 x.n y.n).2:=rfl;rw [hnr] at hap;have hl:=λq=>vV (l:=[x,y]) hk q;have hn:=λ(q:tV [x,y] 1=true) H=>num_any 8 x.n y.n H (hl q x (by simp)) (hl q y (by simp));generalize sW 8 x.n y.n=r at *;generalize tV [x,y] 1=kv at *;refine pQ Tryz.func161 λhbx hbad Q hQ=>?_;refine qQ (c0.sees (Sees.refl _)) ?_;refine qQ (c1.sees (Sees.refl _)) ?_;refine go1 72 [.own,.cl 198 #[.slice (some ⟨b,o,none⟩) 2 cap,Vi 1] (.bool kv)] [] ?_ (ho:=(Aj (λH sH=>hki _ (hr.sees sH)) (trivial)));intro b1
 by_cases hq:kv=true
 ·skip;refine tQ (t := !kv) ((by rw [hq]; rfl)) ?_
  refine go0 4 [] [] ?_;refine g_mapmake ?_; intro b2;refine aV 0 b2 (es:=[]) (td:=.int .i64) (key:=Vi 5) (by kernel_rfl) ?_;refine aV 0 b2 (es:=[(Vi 5,.func (.func 199) #[] #[])]) (td:=.int .i64) (key:=Vi 6) (by kernel_rfl) ?_;refine aV 0 b2 (es:=[(Vi 5,.func (.func 199) #[] #[]),(Vi 6,.func (.func 200) #[] #[])]) (td:=.int .i64) (key:=Vi 7) (by kernel_rfl) ?_;refine aV 0 b2 (es:=[(Vi 5,.func (.func 199) #[] #[]),(Vi 6,.func (.func 200) #[] #[]),(Vi 7,.func (.func 201) #[] #[])]) (td:=.int .i64) (key:=Vi 8) (by kernel_rfl) ?_;refine aV 0 b2 (es:=[(Vi 5,.func (.func 199) #[] #[]),(Vi 6,.func (.func 200) #[] #[]),(Vi 7,.func (.func 201) #[] #[]),(Vi 8,.func (.func 202) #[] #[])]) (td:=.int .i64) (key:=Vi 9) (by kernel_rfl) ?_;refine go0 2 [] [] ?_;refine g_mapget 0 b2 (es:=[(Vi 5,.func (.func 199) #[] #[]),(Vi 6,.func (.func 200) #[] #[]),(Vi 7,.func (.func 201) #[] #[]),(Vi 8,.func (.func 202) #[] #[]),(Vi 9,.func (.func 203) #[] #[])]) (td:=.int .i64) (key:=Vi 8) (r:=some (3,.func (.func 202) #[] #[])) .nilFunc (.func (.func 202) #[] #[]) (by kernel_rfl) ?_;refine go0 4 [] [] ?_;refine fV 13 0 [.pu,.v (λgh=>.pointer (some ⟨b,o + 0 * 3,none⟩)),.pu,.lf 1 1,.pu,.pu,.pu,.pu,.v (λgh=>.pointer (some ⟨b,o + 1 * 3,none⟩)),.pu,.lf 0 1,.pu,.pu] [] (trivial) ?_ ?_
  ·intro R hT hA hmono;refine Aj (bZ hT hA b o 2 cap 0 (λgh=>.pointer (some ⟨b,o + 0 * 3,none⟩)) ((by decide))) ?_;refine Aj (bZ hT hA b o 2 cap 1 (λgh=>.pointer (some ⟨b,o + 1 * 3,none⟩)) ((by decide))) ?_
   trivial
  rintro W3 S4 -;refine go0 31 [.cl 202 #[Vi x.n,Vi y.n] (.tuple #[Vi r.1,Vi r.2])] [] ?_ (ho:=(Aj (λH sH=>hn hq _) (trivial)))
  by_cases hc:r.2=0
  ·refine tQ (t:=r.2 != 0) (Rk.2 hc) ?_;refine go0 10 [.b 1 0] [] ?_;refine hQ.to [.agg #[Vi 1,Vi r.1,Ve]] (λH sH=>?_) (ix:=[1]);rw [hap,Cj hq,Cj hc]; rfl
  ·skip;refine jV (t:=r.2 != 0) (Hk.2 hc) ?_
   refine go0 9 [.cl 157 #[Vi r.2] (.agg #[Vi 5,Vi r.2,Ve]),.b 1 0] [] ?_ (ho:=(Aj (λH sH=>vK _ _) (trivial)));refine hQ.to [.agg #[Vi 5,Vi r.2,Ve]] (λH sH=>?_) (ix:=[1]);rw [hap,Cj hq,Bj hc]; rfl
 ·skip;refine jV (t := !kv) ((by rw [show kv=false from by simpa using hq]; rfl)) ?_
  refine go0 8 [.cl 157 #[Vi 9] (.agg #[Vi 5,Vi 9,Ve]),.b 0 0] [] ?_ (ho:=(Aj (λH sH=>vK 9 _) (trivial)));refine hQ.to [.agg #[Vi 5,Vi 9,Ve]] (λH sH=>?_) (ix:=[0]);rw [hap,Bj hq]; rfl
theorem apply_9 (x y:Vl) (sl:Value) (h:Vw) (hr:RS h 3 sl (vrows [x,y])) (hk:∀ v∈[x,y],v.known):C0 Tryz.prog 161 #[Vi 9,sl] h (λv _=>v=(lJ 9 [x,y]).val):=by
 obtain ⟨b,o,cap,rfl,c0⟩:=row0 hr;have kx:=hk x (by simp);have ky:=hk y (by simp);have c1:Cells h b (o + 1 * 3) y.cells:=hr.cell (i:=1) rfl;have hki:=λH hq=>uV [x,y] (.slice (some ⟨b,o,none⟩) 2 cap) 1 H hq (by simp);have hap:lJ 9 [x,y]=if tV [x,y] 1=true then nrV 9 x.n y.n else uK 9:=by unfold lJ; rw [Bj (by omega),Bj (by omega),Bj (by omega),Bj (by omega),Bj (by omega),hd0,hd1]
 have hnr:nrV 9 x.n y.n=if (sW 9 x.n y.n).2=0 then ⟨1,(sW 9 x.n y.n).1,⟨#[]⟩⟩ else uK (sW 9 x.n y.n).2:=rfl;rw [hnr] at hap;have hl:=λq=>vV (l:=[x,y]) hk q;have hn:=λ(q:tV [x,y] 1=true) H=>num_any 9 x.n y.n H (hl q x (by simp)) (hl q y (by simp));generalize sW 9 x.n y.n=r at *;generalize tV [x,y] 1=kv at *;refine pQ Tryz.func161 λhbx hbad Q hQ=>?_;refine qQ (c0.sees (Sees.refl _)) ?_;refine qQ (c1.sees (Sees.refl _)) ?_;refine go1 72 [.own,.cl 198 #[.slice (some ⟨b,o,none⟩) 2 cap,Vi 1] (.bool kv)] [] ?_ (ho:=(Aj (λH sH=>hki _ (hr.sees sH)) (trivial)));intro b1
 by_cases hq:kv=true
 ·skip;refine tQ (t := !kv) ((by rw [hq]; rfl)) ?_
  refine go0 4 [] [] ?_;refine g_mapmake ?_; intro b2;refine aV 0 b2 (es:=[]) (td:=.int .i64) (key:=Vi 5) (by kernel_rfl) ?_;refine aV 0 b2 (es:=[(Vi 5,.func (.func 199) #[] #[])]) (td:=.int .i64) (key:=Vi 6) (by kernel_rfl) ?_;refine aV 0 b2 (es:=[(Vi 5,.func (.func 199) #[] #[]),(Vi 6,.func (.func 200) #[] #[])]) (td:=.int .i64) (key:=Vi 7) (by kernel_rfl) ?_;refine aV 0 b2 (es:=[(Vi 5,.func (.func 199) #[] #[]),(Vi 6,.func (.func 200) #[] #[]),(Vi 7,.func (.func 201) #[] #[])]) (td:=.int .i64) (key:=Vi 8) (by kernel_rfl) ?_;refine aV 0 b2 (es:=[(Vi 5,.func (.func 199) #[] #[]),(Vi 6,.func (.func 200) #[] #[]),(Vi 7,.func (.func 201) #[] #[]),(Vi 8,.func (.func 202) #[] #[])]) (td:=.int .i64) (key:=Vi 9) (by kernel_rfl) ?_;refine go0 2 [] [] ?_;refine g_mapget 0 b2 (es:=[(Vi 5,.func (.func 199) #[] #[]),(Vi 6,.func (.func 200) #[] #[]),(Vi 7,.func (.func 201) #[] #[]),(Vi 8,.func (.func 202) #[] #[]),(Vi 9,.func (.func 203) #[] #[])]) (td:=.int .i64) (key:=Vi 9) (r:=some (4,.func (.func 203) #[] #[])) .nilFunc (.func (.func 203) #[] #[]) (by kernel_rfl) ?_;refine go0 4 [] [] ?_;refine fV 13 0 [.pu,.v (λgh=>.pointer (some ⟨b,o + 0 * 3,none⟩)),.pu,.lf 1 1,.pu,.pu,.pu,.pu,.v (λgh=>.pointer (some ⟨b,o + 1 * 3,none⟩)),.pu,.lf 0 1,.pu,.pu] [] (trivial) ?_ ?_
  ·intro R hT hA hmono;refine Aj (bZ hT hA b o 2 cap 0 (λgh=>.pointer (some ⟨b,o + 0 * 3,none⟩)) ((by decide))) ?_;refine Aj (bZ hT hA b o 2 cap 1 (λgh=>.pointer (some ⟨b,o + 1 * 3,none⟩)) ((by decide))) ?_
   trivial
  rintro W3 S4 -;refine go0 31 [.cl 203 #[Vi x.n,Vi y.n] (.tuple #[Vi r.1,Vi r.2])] [] ?_ (ho:=(Aj (λH sH=>hn hq _) (trivial)))
  by_cases hc:r.2=0
  ·refine tQ (t:=r.2 != 0) (Rk.2 hc) ?_;refine go0 10 [.b 1 0] [] ?_;refine hQ.to [.agg #[Vi 1,Vi r.1,Ve]] (λH sH=>?_) (ix:=[1]);rw [hap,Cj hq,Cj hc]; rfl
  ·skip;refine jV (t:=r.2 != 0) (Hk.2 hc) ?_
   refine go0 9 [.cl 157 #[Vi r.2] (.agg #[Vi 5,Vi r.2,Ve]),.b 1 0] [] ?_ (ho:=(Aj (λH sH=>vK _ _) (trivial)));refine hQ.to [.agg #[Vi 5,Vi r.2,Ve]] (λH sH=>?_) (ix:=[1]);rw [hap,Cj hq,Bj hc]; rfl
 ·skip;refine jV (t := !kv) ((by rw [show kv=false from by simpa using hq]; rfl)) ?_
  refine go0 8 [.cl 157 #[Vi 9] (.agg #[Vi 5,Vi 9,Ve]),.b 0 0] [] ?_ (ho:=(Aj (λH sH=>vK 9 _) (trivial)));refine hQ.to [.agg #[Vi 5,Vi 9,Ve]] (λH sH=>?_) (ix:=[0]);rw [hap,Bj hq]; rfl
theorem apply_any (op:Int) (l:List Vl) (sl:Value) (h:Vw) (hr:RS h 3 sl (vrows l)) (hk:∀ v∈l,v.known) (h1:3 <= op) (h2:op <= 18) (h15:op≠15) (h16:op≠16) (h17:op≠17) (hl:l.length=arity op) :
  C0 Tryz.prog 161 #[Vi op,sl] h (λv _=>v=(lJ op l).val):=by
 have e1:∀ {l:List Vl},l.length=1 -> ∃ x,l=[x]:=λ{l} h=>by
  cases l with
  | nil=>cases h
  | cons x l=>cases l with
   | nil=>exact ⟨x,rfl⟩
   | cons y l=>simp at h
 have e2:∀ {l:List Vl},l.length=2 -> ∃ x y,l=[x,y]:=λ{l} h=>by
  cases l with
  | nil=>cases h
  | cons x l =>
   cases l with
   | nil=>simp at h
   | cons y l=>cases l with
    | nil=>exact ⟨x,y,rfl⟩
    | cons z l=>simp at h
 obtain rfl | rfl | rfl | rfl | rfl | rfl | rfl | rfl | rfl | rfl | rfl | rfl | rfl:op=3\/op=4\/op=5\/op=6\/op=7\/op=8\/op=9\/op=10\/op=11\/op=12\/op=13\/op=14\/op=18:=by omega
 ·obtain ⟨x,rfl⟩:=e1 hl; exact apply_3 x sl h hr hk
 ·obtain ⟨x,rfl⟩:=e1 hl; exact apply_4 x sl h hr hk
 ·obtain ⟨x,y,rfl⟩:=e2 hl; exact apply_5 x y sl h hr hk
 ·obtain ⟨x,y,rfl⟩:=e2 hl; exact apply_6 x y sl h hr hk
 ·obtain ⟨x,y,rfl⟩:=e2 hl; exact apply_7 x y sl h hr hk
 ·obtain ⟨x,y,rfl⟩:=e2 hl; exact apply_8 x y sl h hr hk
 ·obtain ⟨x,y,rfl⟩:=e2 hl; exact apply_9 x y sl h hr hk
 ·obtain ⟨x,y,rfl⟩:=e2 hl; exact apply_10 x y sl h hr hk
 ·obtain ⟨x,y,rfl⟩:=e2 hl; exact apply_11 x y sl h hr hk
 ·obtain ⟨x,y,rfl⟩:=e2 hl; exact apply_12 x y sl h hr hk
 ·obtain ⟨x,y,rfl⟩:=e2 hl; exact apply_13 x y sl h hr hk
 ·obtain ⟨x,y,rfl⟩:=e2 hl; exact apply_14 x y sl h hr hk
 ·obtain ⟨x,rfl⟩:=e1 hl; exact apply_18 x sl h hr hk
abbrev lK (env:Env):List (Value × Value):=xY (env.map λp=>(p.1,p.2.val))
theorem sget_env (s:ByteArray):∀ env:Env,sget s (env.map λp=>(p.1,p.2.val))=(env.get s).map Vl.val
 | []=>rfl
 | (k,v) :: l=>by
  simp only [Ik];unfold sget Env.get
  cases s == k
  ·simp only [Bool.false_eq_true,if_false]; exact sget_env s l
  ·rfl
def EnvOk (env:Env):Prop:=∀ s v,env.get s=some v -> OkV v
theorem arity_pos {op:Int} (h1:3 <= op) (h2:op <= 18):1 <= arity op /\ arity op <= 3:=by
 unfold arity;rw [Bj (by omega)]
 repeat' split
 all_goals omega
theorem applyV_ok {op:Int} {l:List Vl} (hk:∀ v∈l,v.known) (hl:1 <= l.length) (hl2:op=10\/(5 <= op /\ op <= 9) -> 2 <= l.length) (h3:3 <= op) (h18:op <= 18) (hx:op≠15 /\ op≠16 /\ op≠17):OkV (lJ op l):=by
 have h0:hdV l 0∈l:=by
  cases l with
  | nil=>simp at hl
  | cons x l=>exact Zk
 have h1:2 <= l.length -> hdV l 1∈l:=λh=>by
  cases l with
  | nil=>simp at h
  | cons x l =>
   cases l with
   | nil=>simp at h
   | cons y l=>simp [hdV]
 unfold lJ
 split
 ·split
  ·exact ok_truth _
  ·exact wW (by omega) (by omega)
 ·split
  ·split
   ·exact ok_truth _
   ·exact wW (by omega) (by omega)
  ·split
   ·split
    ·rename_i hq
     have:=known_texts hk hq _ h0
     exact .inl (.inl ⟨rfl,by unfold Lim; simp only; omega,rfl⟩)
    ·exact wW (by omega) (by omega)
   ·split
    ·rename_i h10
     split
     ·rename_i hq;have k0:=hk _ h0;have k1:=hk _ (h1 (hl2 (.inl h10)));have e0:(hdV l 0).k=3:=by unfold tV at hq; rw [Sj] at hq; simpa using hq _ h0
      have e1:(hdV l 1).k=3:=by unfold tV at hq; rw [Sj] at hq; simpa using hq _ (h1 (hl2 (.inl h10)))
      generalize hdV l 0=x at *;generalize hdV l 1=y at *;unfold joinV
      split
      ·exact wW (by omega) (by omega)
      ·rename_i hc;rcases k0 with g | g | g
       ·omega
       ·omega
       ·rcases k1 with q | q | q
        ·omega
        ·omega
        ·refine .inl (.inr (.inr ⟨rfl,rfl,by simp [ByteArray.size_append]; omega,λi hi=>?_⟩));have hs:(x.s++y.s).size=x.s.size + y.s.size:=ByteArray.size_append ..;have hi':i < x.s.size + y.s.size:=by rw [<- hs]; exact hi
         show 32 <= (x.s++y.s)[i].toNat /\ _
         by_cases hlt:i < x.s.size
         ·rw [ByteArray.getElem_append_left hlt]; exact g.2.2.2 i hlt
         ·rw [ByteArray.getElem_append_right (by omega)]; exact q.2.2.2 _ (by omega)
     ·exact wW (by omega) (by omega)
    ·split
     ·split
      ·rename_i hq;exact nrV_ok (by unfold Lim; omega) (vV hk hq _ h0)
      ·exact wW (by omega) (by omega)
     ·split
      ·rename_i hq;exact nrV_ok (vV hk hq _ h0) (vV hk hq _ (h1 (hl2 (.inr (by omega)))))
      ·exact wW (by omega) (by omega)
theorem lack_some {u:Vl}:∀ {l:List Vl} {p:Option Vl},xV p l=some u -> (∀ w,p=some w -> w.k=4) -> (u.k=5\/u.k=4) /\ (p=some u\/u∈l)
 | [],p,h,hp=>by
  unfold xV at h;exact ⟨.inr (hp u h),.inl h⟩
 | v :: l,p,h,hp=>by
  unfold xV at h
  split at h
  ·simp only [Yj] at h; subst h; rename_i h5; exact ⟨.inl h5,.inr (by simp)⟩
  ·by_cases h4:v.k=4
   ·rw [Cj h4] at h;obtain ⟨h1,h2⟩:=lack_some h (λw hw=>by simp only [Yj] at hw; subst hw; exact h4);refine ⟨h1,.inr ?_⟩;rcases h2 with h2 | h2
    ·simp only [Yj] at h2; subst h2; simp
    ·simp [h2]
   ·rw [Bj h4] at h;obtain ⟨h1,h2⟩:=lack_some h hp;exact ⟨h1,h2.imp id (λk=>by simp [k])⟩
theorem lack_none:∀ {l:List Vl} {p:Option Vl},xV p l=none -> p=none /\ ∀ v∈l,v.k≠5 /\ v.k≠4
 | [],p,h=>⟨h,λv hv=>by cases hv⟩
 | v :: l,p,h=>by
  unfold xV at h
  split at h
  ·cases h
  ·rename_i h5;obtain ⟨h1,h2⟩:=lack_none h
   by_cases h4:v.k=4
   ·rw [Cj h4] at h1; cases h1
   ·rw [Bj h4] at h1;refine ⟨h1,λu hu=>?_⟩;rcases Tj.1 hu with rfl | hu
    ·exact ⟨h5,h4⟩
    ·exact h2 u hu
theorem firstV_ok {v:Vl} (h:OkV v):OkV (eQ v).1:=by
 unfold eQ
 split
 ·exact wW (by omega) (by omega)
 ·exact h
theorem boolV_ok {v:Vl} (h:OkV v):OkV (wJ v):=by
 unfold wJ
 split
 ·exact wW (by omega) (by omega)
 ·exact h
theorem hdV_mem {l:List Vl} {i:Nat} (h:i < l.length):hdV l i∈l:=by
 unfold hdV;rw [Uk,Gj h];exact List.getElem_mem h
theorem evalE_ok {env:Env} (he:EnvOk env):∀ (m:Nat) (x:Ex),(szE x).1 <= m -> WfE x -> OkV (mK env x)
 | 0,x,h,_=>by have:=szE_pos x; omega
 | m + 1,x,h,hw=>by
  have hsz:=zY x;rw [hsz] at h;simp only at h;have hl:∀ v∈nK env x.args,OkV v:=by
   intro v hv;rw [oK] at hv;obtain ⟨y,hy,rfl⟩:=Rj.1 hv;exact evalE_ok he m y (by have:=(szL_mem hy).1; omega) (hw.list.get hy)
  have hlen:(nK env x.args).length=x.args.length:=by rw [oK,Ij]
  rw [evalE_eq];rcases hw.top with ⟨h1,h2,h3,h4,h5⟩ | ⟨h1,h2,h3,h4,h5,h6⟩ | ⟨h1,h2,h3,h4,h5,h6,h7⟩
  ·rw [Cj h1]; exact .inl h2
  ·rw [Bj (by omega),Cj h1]
   cases hg:env.get x.nm with
   | none=>exact wW (by omega) (by omega)
   | some v=>exact he _ _ hg
  ·rw [Bj (by omega),Bj (by omega)];have hap:=arity_pos h1 h2
   split
   ·rename_i hq;have ha:arity x.op=2:=by unfold arity; rw [Bj (by omega),Bj (by omega),Bj (by omega)]
    split
    ·exact firstV_ok (hl _ (hdV_mem (by omega)))
    ·exact boolV_ok (hl _ (hdV_mem (by omega)))
   ·split
    ·rename_i hq;have ha:arity x.op=3:=by rw [hq]; rfl
     split
     ·exact firstV_ok (hl _ (hdV_mem (by omega)))
     ·split
      ·exact hl _ (hdV_mem (by omega))
      ·exact hl _ (hdV_mem (by omega))
    ·rename_i n1 n2
     cases hk:xV none (nK env x.args) with
     | some u =>
      obtain ⟨-,g⟩:=lack_some hk (λw hw=>by cases hw);rcases g with g | g
      ·cases g
      ·exact hl u g
     | none =>
      obtain ⟨-,g⟩:=lack_none hk;refine applyV_ok (λv hv=>ok_known (hl v hv) (g v hv).2 (g v hv).1) (by omega) (λhq=>?_) h1 h2 ⟨by omega,by omega,by omega⟩;have ha:arity x.op=2:=by
       unfold arity;rw [Bj (by omega),Bj (by omega),Bj (by omega)]
      omega
def OfAll (env:Env) (b:Nat) (l:List Ex):Prop:=∀ y∈l,∀ v h,IsArgs h y v -> MapAt h b (lK env) -> C0 Tryz.prog 109 #[.map (some b),.agg #[Vi y.op,Vi y.k,Vi y.n,.string y.s,.string y.nm,v]] h (λr _=>r=(mK env y).val)
theorem first_any (env:Env) (b:Nat) (x y:Ex) (sl:Value) (h:Vw) (hx:IsArgs h x sl) (hm:MapAt h b (lK env)) (hy:x.args[0]?=some y) (hof:OfAll env b x.args) (hok:OkV (mK env y)) :
  C0 Tryz.prog 158 #[.map (some b),.agg #[Vi x.op,Vi x.k,Vi x.n,.string x.s,.string x.nm,sl]] h (λr _=>r=.tuple #[(eQ (mK env y)).1.val,.bool (eQ (mK env y)).2]):=by
 obtain ⟨vs,hr,hvs⟩:=hx.form;obtain ⟨A,c,rfl,-,-,-⟩:=hr.form;have hvl:=hvs.len;have hrl:=sK hvl;have hlt:=(Nj.1 hy).1;rw [hrl] at hr ⊢;have ho:=hof y (Ej hy);obtain ⟨u,hu⟩:∃ u,vs[0]?=some u:=⟨_,Gj (by omega)⟩;have hyu:=AllArgs.get hvs hy hu;obtain ⟨Au,nu,cu,rfl⟩:=hyu.slice;have hrow:(rK x.args vs)[0]?=some (exRow y (.slice Au nu cu)):=by show (List.zipWith exRow _ _)[0]?=_; rw [Dw,hy,hu]
 have hk:=ok_kinds hok;generalize x.args.length=len at *;generalize mK env y=e at *;obtain ⟨ek,en,es⟩:=e;obtain rfl | rfl | rfl | rfl | rfl:ek=1\/ek=2\/ek=3\/ek=4\/ek=5:=by simp only at hk; omega
 ·refine pQ Tryz.func158 λhbx hbad Q hQ=>?_;refine go2 12 [.own,.own,.b 1 5] [] ?_;intro b1 b2;obtain ⟨b3,o4,rfl,-,c5⟩:=RS.row hr (hrow);refine qQ (c5.sees (Sees.refl _)) ?_;refine go1 35 [.ix b3 o4 len c 0,.f 0 0,.cl 109 #[.map (some b),.agg #[Vi y.op,Vi y.k,Vi y.n,.string y.s,.string y.nm,.slice Au nu cu]] (.agg #[Vi 1,Vi en,.string es]),.own,.b 0 0,.b 0 0,.b 0 0,.b 0 0,.cl 157 #[Vi 9] (.agg #[Vi 5,Vi 9,Ve]),.b 1 0] [] ?_ (ho:=(Aj (by first | omega | (simp; omega)) (Aj (λH sH=>ho _ _ (hyu.sees sH) (hm.sees sH)) (Aj (λH sH=>vK 9 _) (trivial)))));intro b6;refine hQ.to [.agg #[Vi 5,Vi 9,Ve],.bool false] (λH sH=>?_) (ix:=[1]);exact rfl
 ·refine pQ Tryz.func158 λhbx hbad Q hQ=>?_;refine go2 12 [.own,.own,.b 1 5] [] ?_;intro b1 b2;obtain ⟨b3,o4,rfl,-,c5⟩:=RS.row hr (hrow);refine qQ (c5.sees (Sees.refl _)) ?_;refine go1 29 [.ix b3 o4 len c 0,.f 0 0,.cl 109 #[.map (some b),.agg #[Vi y.op,Vi y.k,Vi y.n,.string y.s,.string y.nm,.slice Au nu cu]] (.agg #[Vi 2,Vi en,.string es]),.own,.b 0 0,.b 0 0] [] ?_ (ho:=(Aj (by first | omega | (simp; omega)) (Aj (λH sH=>ho _ _ (hyu.sees sH) (hm.sees sH)) (trivial))));intro b6;refine fV 6 0 [.ld 0 0,.pu,.ld 0 0,.pu,.st 1 0,.pu] [] (trivial) ?_ ?_
  ·intros; trivial
  rintro W7 S8 -;refine go0 2 [] [] ?_;refine hQ.to [.agg #[Vi 2,Vi en,.string es],.bool true] (λH sH=>?_) (ix:=[1]);exact rfl
 ·refine pQ Tryz.func158 λhbx hbad Q hQ=>?_;refine go2 12 [.own,.own,.b 1 5] [] ?_;intro b1 b2;obtain ⟨b3,o4,rfl,-,c5⟩:=RS.row hr (hrow);refine qQ (c5.sees (Sees.refl _)) ?_;refine go1 35 [.ix b3 o4 len c 0,.f 0 0,.cl 109 #[.map (some b),.agg #[Vi y.op,Vi y.k,Vi y.n,.string y.s,.string y.nm,.slice Au nu cu]] (.agg #[Vi 3,Vi en,.string es]),.own,.b 0 0,.b 0 0,.b 0 0,.b 0 0,.cl 157 #[Vi 9] (.agg #[Vi 5,Vi 9,Ve]),.b 1 0] [] ?_ (ho:=(Aj (by first | omega | (simp; omega)) (Aj (λH sH=>ho _ _ (hyu.sees sH) (hm.sees sH)) (Aj (λH sH=>vK 9 _) (trivial)))));intro b6;refine hQ.to [.agg #[Vi 5,Vi 9,Ve],.bool false] (λH sH=>?_) (ix:=[1]);exact rfl
 ·refine pQ Tryz.func158 λhbx hbad Q hQ=>?_;refine go2 12 [.own,.own,.b 1 5] [] ?_;intro b1 b2;obtain ⟨b3,o4,rfl,-,c5⟩:=RS.row hr (hrow);refine qQ (c5.sees (Sees.refl _)) ?_;refine go1 29 [.ix b3 o4 len c 0,.f 0 0,.cl 109 #[.map (some b),.agg #[Vi y.op,Vi y.k,Vi y.n,.string y.s,.string y.nm,.slice Au nu cu]] (.agg #[Vi 4,Vi en,.string es]),.own,.b 0 0,.b 0 0,.b 0 0] [] ?_ (ho:=(Aj (by first | omega | (simp; omega)) (Aj (λH sH=>ho _ _ (hyu.sees sH) (hm.sees sH)) (trivial))));intro b6;refine fV 6 0 [.ld 0 0,.pu,.ld 0 0,.pu,.st 1 0,.pu] [] (trivial) ?_ ?_
  ·intros; trivial
  rintro W7 S8 -;refine go0 2 [] [] ?_;refine hQ.to [.agg #[Vi 4,Vi en,.string es],.bool false] (λH sH=>?_) (ix:=[1]);exact rfl
 ·refine pQ Tryz.func158 λhbx hbad Q hQ=>?_;refine go2 12 [.own,.own,.b 1 5] [] ?_;intro b1 b2;obtain ⟨b3,o4,rfl,-,c5⟩:=RS.row hr (hrow);refine qQ (c5.sees (Sees.refl _)) ?_;refine go1 29 [.ix b3 o4 len c 0,.f 0 0,.cl 109 #[.map (some b),.agg #[Vi y.op,Vi y.k,Vi y.n,.string y.s,.string y.nm,.slice Au nu cu]] (.agg #[Vi 5,Vi en,.string es]),.own,.b 0 0,.b 0 0,.b 0 0,.b 0 0] [] ?_ (ho:=(Aj (by first | omega | (simp; omega)) (Aj (λH sH=>ho _ _ (hyu.sees sH) (hm.sees sH)) (trivial))));intro b6;refine fV 6 0 [.ld 0 0,.pu,.ld 0 0,.pu,.st 1 0,.pu] [] (trivial) ?_ ?_
  ·intros; trivial
  rintro W7 S8 -;refine go0 2 [] [] ?_;refine hQ.to [.agg #[Vi 5,Vi en,.string es],.bool false] (λH sH=>?_) (ix:=[1]);exact rfl
theorem bool_any (env:Env) (b:Nat) (x:Ex) (sl:Value) (h:Vw) (hx:IsArgs h x sl) (hm:MapAt h b (lK env)) (ho:∀ v h,IsArgs h x v -> MapAt h b (lK env) -> C0 Tryz.prog 109 #[.map (some b),.agg #[Vi x.op,Vi x.k,Vi x.n,.string x.s,.string x.nm,v]] h (λr _=>r=(mK env x).val)) (hok:OkV (mK env x)) :
  C0 Tryz.prog 159 #[.map (some b),.agg #[Vi x.op,Vi x.k,Vi x.n,.string x.s,.string x.nm,sl]] h (λr _=>r=(wJ (mK env x)).val):=by
 obtain ⟨A,len,c,rfl⟩:=hx.slice;have hk:=ok_kinds hok;generalize mK env x=e at *;obtain ⟨ek,en,es⟩:=e;obtain rfl | rfl | rfl | rfl | rfl:ek=1\/ek=2\/ek=3\/ek=4\/ek=5:=by simp only at hk; omega
 ·refine pQ Tryz.func159 λhbx hbad Q hQ=>?_;refine go3 37 [.own,.own,.b 1 0,.cl 109 #[.map (some b),.agg #[Vi x.op,Vi x.k,Vi x.n,.string x.s,.string x.nm,.slice A len c]] (.agg #[Vi 1,Vi en,.string es]),.own,.b 0 0,.b 0 0,.cl 157 #[Vi 9] (.agg #[Vi 5,Vi 9,Ve]),.b 1 0] [] ?_ (ho:=(Aj (λH sH=>ho _ _ (hx.sees sH) (hm.sees sH)) (Aj (λH sH=>vK 9 _) (trivial))));intro b1 b2 b3;refine hQ.to [.agg #[Vi 5,Vi 9,Ve]] (λH sH=>?_) (ix:=[1]);exact rfl
 ·refine pQ Tryz.func159 λhbx hbad Q hQ=>?_;refine go3 38 [.own,.own,.b 1 0,.cl 109 #[.map (some b),.agg #[Vi x.op,Vi x.k,Vi x.n,.string x.s,.string x.nm,.slice A len c]] (.agg #[Vi 2,Vi en,.string es]),.own,.b 0 0,.b 0 0,.b 0 0,.b 0 0,.b 1 0] [] ?_ (ho:=(Aj (λH sH=>ho _ _ (hx.sees sH) (hm.sees sH)) (trivial)));intro b1 b2 b3;refine hQ.to [.agg #[Vi 2,Vi en,.string es]] (λH sH=>?_) (ix:=[1]);exact rfl
 ·refine pQ Tryz.func159 λhbx hbad Q hQ=>?_;refine go3 37 [.own,.own,.b 1 0,.cl 109 #[.map (some b),.agg #[Vi x.op,Vi x.k,Vi x.n,.string x.s,.string x.nm,.slice A len c]] (.agg #[Vi 3,Vi en,.string es]),.own,.b 0 0,.b 0 0,.b 0 0,.cl 157 #[Vi 9] (.agg #[Vi 5,Vi 9,Ve]),.b 1 0] [] ?_ (ho:=(Aj (λH sH=>ho _ _ (hx.sees sH) (hm.sees sH)) (Aj (λH sH=>vK 9 _) (trivial))));intro b1 b2 b3;refine hQ.to [.agg #[Vi 5,Vi 9,Ve]] (λH sH=>?_) (ix:=[1]);exact rfl
 ·refine pQ Tryz.func159 λhbx hbad Q hQ=>?_;refine go3 38 [.own,.own,.b 1 0,.cl 109 #[.map (some b),.agg #[Vi x.op,Vi x.k,Vi x.n,.string x.s,.string x.nm,.slice A len c]] (.agg #[Vi 4,Vi en,.string es]),.own,.b 0 0,.b 0 0,.b 0 0,.b 0 0,.b 1 0] [] ?_ (ho:=(Aj (λH sH=>ho _ _ (hx.sees sH) (hm.sees sH)) (trivial)));intro b1 b2 b3;refine hQ.to [.agg #[Vi 4,Vi en,.string es]] (λH sH=>?_) (ix:=[1]);exact rfl
 ·refine pQ Tryz.func159 λhbx hbad Q hQ=>?_;refine go3 38 [.own,.own,.b 1 0,.cl 109 #[.map (some b),.agg #[Vi x.op,Vi x.k,Vi x.n,.string x.s,.string x.nm,.slice A len c]] (.agg #[Vi 5,Vi en,.string es]),.own,.b 0 0,.b 0 0,.b 0 0,.b 0 0,.b 1 0] [] ?_ (ho:=(Aj (λH sH=>ho _ _ (hx.sees sH) (hm.sees sH)) (trivial)));intro b1 b2 b3;refine hQ.to [.agg #[Vi 5,Vi en,.string es]] (λH sH=>?_) (ix:=[1]);exact rfl
theorem vrows_snoc (l:List Vl) (e:Vl):vrows (l++[e])=vrows l++[e.cells]:=by simp [vrows]
def zV:Vl:=⟨0,0,⟨#[]⟩⟩
theorem lackV_step (p:Option Vl) (v:Vl) (l:List Vl) (h:v.k≠5):xV p (v :: l)=xV (if v.k=4 then some v else p) l:=by
 conv=>lhs; unfold xV
 rw [Bj h]
theorem lackV_hit (p:Option Vl) (v:Vl) (l:List Vl) (h:v.k=5):xV p (v :: l)=some v:=by
 unfold xV;rw [Cj h]
theorem drop_at {α:Type} {l:List α} {k:Nat} {x:α} (h:l[k]?=some x):l.drop k=x :: l.drop (k + 1):=by
 obtain ⟨hk,rfl⟩:=Nj.1 h;exact Tv hk
theorem all_any (env:Env) (b:Nat) (x:Ex) (sl:Value) (h:Vw) (hx:IsArgs h x sl) (hm:MapAt h b (lK env)) (hof:OfAll env b x.args) (hl3:x.args.length <= 3) :
  C0 Tryz.prog 160 #[.map (some b),sl] h (λv h'=>∃ A n c u,v=.tuple #[.slice A n c,u.val] /\ (xV none (nK env x.args)).getD zV=u /\ (xV none (nK env x.args)=none -> n=x.args.length /\ RS h' 3 (.slice A n c) (vrows (nK env x.args)))):=by
 obtain ⟨vs,hr,hvs⟩:=hx.form;obtain ⟨A,cap,rfl,-,-,-⟩:=hr.form;have hvl:=hvs.len;have hrl:=sK hvl;rw [hrl] at hr ⊢;rw [oK];generalize hL:x.args.length=len at *;have hel:(x.args.map (mK env)).length=len:=by rw [Ij,hL]
 refine pQ Tryz.func160 λhbx hbad Q hQ=>?_;refine cV 44 3 ?_;refine go2 25 [.own,.own] [] ?_;intro b1 b2;refine yQ [0,1,0,1,1,1] [.block 0,.seq [1,1,1,1]] (λ(k:Nat) X=>∃ (W3:Vw) (v:Value) (pd:Option Vl),X W3 [(0,.map (some b)),(5,Vp b1),(7,Vp b2),(11,.slice A len cap),(12,Vi (len:Int)),(13,Vi (k:Int)),(6,v)] [.box b2 [Vi ((pd.getD zV).k),Vi ((pd.getD zV).n),.string ((pd.getD zV).s)],.box b1 [Vi 0,Vi 0,Ve],.row v 44 3 (vrows ((x.args.map (mK env)).take k))] [] /\ Sees h W3 /\ (k <= len) /\ (xV none (x.args.map (mK env))=xV pd ((x.args.map (mK env)).drop k))) (λk=>len - k) (0) (λX q=>⟨h,(Vz),none,q _ _ _ _ ⟨rfl,by kernel_rfl⟩,Sees.refl _,Mj _,rfl⟩) ?_;rintro k a w ⟨W3,v,pd,hJ,S4,hk,hlk⟩; refine dV hJ ?_; clear hJ a w;refine go0 6 [] [] ?_;rcases (by omega:k < len\/len=k) with hlt | hke
 ·obtain ⟨y,hy⟩:∃ y,x.args[k]?=some y:=⟨_,Gj (by omega)⟩;obtain ⟨u,hu⟩:∃ u,vs[k]?=some u:=⟨_,Gj (by omega)⟩;have hyu:=AllArgs.get hvs hy hu;obtain ⟨Au,nu,cu,rfl⟩:=hyu.slice;have hrow:(rK x.args vs)[k]?=some (exRow y (.slice Au nu cu)):=by show (List.zipWith exRow _ _)[k]?=_; rw [Dw,hy,hu]
  have ho:=hof y (Ej hy);have hek:(x.args.map (mK env))[k]?=some (mK env y):=by rw [Oj,hy]; rfl
  rw [drop_at hek] at hlk;have htk:=cZ _ k _ hek;have htl:((x.args.map (mK env)).take k).length=k:=by rw [Ck,hel]; omega
  generalize mK env y=e at *;generalize x.args.map (mK env)=vals at *;refine jV (t:=decide ((k:Int) < (len:Int))) (Jj (by omega)) ?_;refine go0 6 [] [] ?_;obtain ⟨b5,o6,rfl,-,c7⟩:=RS.row hr (hrow);refine qQ (c7.sees S4) ?_;refine go2 23 [.ix b5 o6 len cap k,.f 0 0,.own,.b 0 0,.b 0 0,.cl 109 #[.map (some b),.agg #[Vi y.op,Vi y.k,Vi y.n,.string y.s,.string y.nm,.slice Au nu cu]] (.agg #[Vi e.k,Vi e.n,.string e.s]),.own,.b 0 0,.b 0 0] [] ?_ (ho:=(Aj (by first | omega | (simp; omega)) (Aj (λH sH=>ho _ _ (hyu.sees (S4.trans sH)) (hm.sees (S4.trans sH))) (trivial))));intro b8 b9
  by_cases h5:e.k=5
  ·rw [lackV_hit _ _ _ h5] at hlk;refine jV (t:=e.k == 5) (Xj.2 h5) ?_;refine go0 1 [] [] ?_;refine fV 3 0 [.ld 0 0,.pu,.st 3 0] [] (trivial) ?_ ?_
   ·intros; trivial
   rintro W10 S11 -;refine go0 5 [] [] ?_;refine xQ ?_;refine go0 2 [] [] ?_;refine hQ.to [Vz,.agg #[Vi e.k,Vi e.n,.string e.s]] (λH sH=>?_) (ix:=[3]);exact ⟨none,0,0,e,rfl,by rw [hlk]; rfl,λhn=>by rw [hlk] at hn; cases hn⟩
  ·skip;rw [lackV_step _ _ _ h5] at hlk
   refine tQ (t:=e.k == 5) (Lj.2 h5) ?_;refine go0 10 [.b 0 0] [] ?_
   by_cases h4:e.k=4
   ·rw [Cj h4] at hlk;refine jV (t:=e.k == 4) (Xj.2 h4) ?_;refine oV 9 [.b 0 0,.b 2 0,.b 0 0,.fix] [] ?_;intro b12 W13 S14;refine goa0 9 [.ap 4 0 (vrows (vals.take k)) [[Vi e.k,Vi e.n,.string e.s]]] [(32,Vi (IntKind.i64.wrap ((k:Int) + 1)),Vi ((k:Int) + 1))] ?_ (ho:=(Aj (by rw [Ij,htl]; simp; omega) (trivial))) (hc:=(Aj (jJ (by omega) (by omega)) (trivial)));intro v31 W15 S16;refine wQ [(0,.map (some b)),(5,Vp b1),(7,Vp b2),(11,.slice (some ⟨b5,o6,none⟩) len cap),(12,Vi (len:Int)),(6,sL v31),(13,Vi ((k:Int) + 1))] [.box b2 [Vi e.k,Vi e.n,.string e.s],.box b1 [Vi 0,Vi 0,Ve],.row (sL v31) 44 3 ((vrows (vals.take k))++[[Vi e.k,Vi e.n,.string e.s]])] [] ?_;exact iV (k + 1) (λX q=>⟨W15,sL v31,some e,q _ _ _ _ (mY (by rw [htk,vrows_snoc]; try rfl)),(S4.trans (S14.trans S16)),by omega,hlk⟩)
   ·skip;rw [Bj h4] at hlk
    refine tQ (t:=e.k == 4) (Lj.2 h4) ?_;refine oV 6 [.b 0 0,.fix] [] ?_;intro b17 W18 S19;refine goa0 9 [.ap 4 0 (vrows (vals.take k)) [[Vi e.k,Vi e.n,.string e.s]]] [(32,Vi (IntKind.i64.wrap ((k:Int) + 1)),Vi ((k:Int) + 1))] ?_ (ho:=(Aj (by rw [Ij,htl]; simp; omega) (trivial))) (hc:=(Aj (jJ (by omega) (by omega)) (trivial)));intro v31 W20 S21;refine wQ [(0,.map (some b)),(5,Vp b1),(7,Vp b2),(11,.slice (some ⟨b5,o6,none⟩) len cap),(12,Vi (len:Int)),(6,sL v31),(13,Vi ((k:Int) + 1))] [.box b2 [Vi ((pd.getD zV).k),Vi ((pd.getD zV).n),.string ((pd.getD zV).s)],.box b1 [Vi 0,Vi 0,Ve],.row (sL v31) 44 3 ((vrows (vals.take k))++[[Vi e.k,Vi e.n,.string e.s]])] [] ?_;exact iV (k + 1) (λX q=>⟨W20,sL v31,pd,q _ _ _ _ (mY (by rw [htk,vrows_snoc]; try rfl)),(S4.trans (S19.trans S21)),by omega,hlk⟩)
 ·skip;have hta:(x.args.map (mK env)).take k=x.args.map (mK env):=Lv (by omega)
  rw [hta];rw [Vv (by omega)] at hlk;refine uQ 2 (v:=v) (e:=44) (kk:=3) (l:=vrows (x.args.map (mK env))) ?_; intro A2 c2 hE_v hc_v hm_v;rw [show (vrows (x.args.map (mK env))).length=len from by first | omega | (simp; done) | (simp; omega)] at hE_v hc_v;rw [hE_v];refine tQ (t:=decide ((k:Int) < (len:Int))) (Kj (by omega)) ?_;refine go0 2 [] [] ?_;refine xQ ?_;refine go0 3 [] [] ?_;refine fV 4 0 [.pu,.ld 0 0,.pu,.st 1 0] [] (trivial) ?_ ?_
  ·intros; trivial
  rintro W22 S23 -;refine go0 2 [] [] ?_;refine wQ [(5,Vp b1),(4,.slice A2 len c2)] [.box b2 [Vi ((pd.getD zV).k),Vi ((pd.getD zV).n),.string ((pd.getD zV).s)],.box b1 [Vi ((pd.getD zV).k),Vi ((pd.getD zV).n),.string ((pd.getD zV).s)],.row (.slice A2 len c2) 44 3 (vrows (x.args.map (mK env)))] [] ?_;refine hQ.toJ [.slice A2 len c2,.agg #[Vi ((pd.getD zV).k),Vi ((pd.getD zV).n),.string ((pd.getD zV).s)]] [] (λa w hJ=>?_) (ix:=[1]);have fr:=hJ.j.rowOut0 (v:=.slice A2 len c2) (e:=44) (k:=3) (l:=vrows (x.args.map (mK env))) 2 (by kernel_rfl) rfl;exact ⟨A2,len,c2,pd.getD zV,rfl,by rw [hlk]; rfl,λ_=>⟨rfl,fr⟩⟩
theorem first_known {v:Vl} (h:OkV v) (hk:(eQ v).2=true):(eQ v).1=v /\ v.k=2 /\ (v.n=0\/v.n=1):=by
 unfold eQ at hk ⊢
 split at hk
 ·cases hk
 ·rename_i h13;rw [Bj h13];have h2:v.k=2:=by simpa using hk
  refine ⟨rfl,h2,?_⟩;rcases h with h | h | h
  ·rcases h with h | h | h
   ·omega
   ·exact h.2.1
   ·omega
  ·rw [h] at h2; cases h2
  ·omega
theorem hd_eval {env:Env} {l:List Ex} {i:Nat} {y:Ex} (h:l[i]?=some y):hdV (nK env l) i=mK env y:=by
 unfold hdV;rw [oK,Uk,Oj,h]; rfl
theorem of_lookup {env:Env} {s:ByteArray} {v:Vl} (h:env.get s=some v):∃ i,mfind .string (Vt s) (lK env)=some (some (i,v.val)):=mfind_some (by rw [sget_env,h]; rfl)
theorem of_miss {env:Env} {s:ByteArray} (h:env.get s=none):mfind .string (Vt s) (lK env)=some none:=mfind_none (by rw [sget_env,h]; rfl)
theorem args_at {h:Vw} {x:Ex} {vs:List Value} (hvs:AllArgs h x.args vs) {i:Nat} (hi:i < x.args.length):∃ y A n c,x.args[i]?=some y /\ IsArgs h y (.slice A n c) /\ (rK x.args vs)[i]?=some (exRow y (.slice A n c)):=by
 obtain ⟨y,hy⟩:∃ y,x.args[i]?=some y:=⟨_,Gj hi⟩;obtain ⟨u,hu⟩:∃ u,vs[i]?=some u:=⟨_,Gj (by rw [hvs.len]; exact hi)⟩;have hyu:=AllArgs.get hvs hy hu;obtain ⟨A,n,c,rfl⟩:=hyu.slice;exact ⟨y,A,n,c,hy,hyu,by show (List.zipWith exRow _ _)[i]?=_; rw [Dw,hy,hu]⟩
theorem of_any (env:Env) (he:EnvOk env) (b:Nat):∀ (m:Nat) (x:Ex) (sl:Value) (h:Vw),(szE x).1 <= m -> IsArgs h x sl -> WfE x -> MapAt h b (lK env) ->
  C0 Tryz.prog 109 #[.map (some b),.agg #[Vi x.op,Vi x.k,Vi x.n,.string x.s,.string x.nm,sl]] h (λr _=>r=(mK env x).val)
 | 0,x,sl,h,hm,_,_,_=>by have:=szE_pos x; omega
 | m + 1,x,sl,h,hm,hx,hw,hmp=>by
  have IH:=of_any env he b m;have hse:=zY x;rw [hse] at hm;simp only at hm;have hwl:=hw.list;have hof:OfAll env b x.args:=λy hy v H hyv hM=>IH y v H (by have:=(szL_mem hy).1; omega) hyv (hwl.get hy) hM;have hok:∀ y∈x.args,OkV (mK env y):=λy hy=>evalE_ok he _ y (Hj _) (hwl.get hy);have hev:=evalE_eq env x;obtain ⟨A,len,c,rfl⟩:=hx.slice;rcases hw.top with ⟨h1,h2,h3,h4,h5⟩ | ⟨h1,h2,h3,h4,h5,h6⟩ | ⟨h1,h2,h3,h4,h5,h6,h7⟩
  ·rw [Cj h1] at hev;rw [hev,h1];refine pQ Tryz.func109 λhbx hbad Q hQ=>?_;refine go2 31 [.own,.own,.b 1 0,.b 1 1,.b 0 0] [] ?_;intro b1 b2;refine hQ.to [.agg #[Vi x.k,Vi x.n,.string x.s]] (λH sH=>?_) (ix:=[0]);exact rfl
  ·rw [Bj (by omega),Cj h1] at hev;rw [h1]
   cases hg:env.get x.nm with
   | none =>
    rw [hg] at hev;have hl:=of_miss hg;rw [hev];refine pQ Tryz.func109 λhbx hbad Q hQ=>?_;refine go2 34 [.own,.own,.b 1 0,.b 1 4] [] ?_;intro b1 b2;refine zQ b (es:=lK env) (td:=.string) (key:=.string x.nm) (r:=none) (.agg #[Vi 0,Vi 0,Ve]) (.tuple #[.agg #[Vi 0,Vi 0,Ve],.bool false]) (λa w hJ=>MapAt.now (hmp.sees (Sees.refl _)) hJ) (hl) ?_;refine go1 25 [.own,.b 0 0,.cl 157 #[Vi 5] (.agg #[Vi 5,Vi 5,Ve]),.b 1 0] [] ?_ (ho:=(Aj (λH sH=>vK 5 _) (trivial)));intro b3;refine hQ.to [.agg #[Vi 5,Vi 5,Ve]] (λH sH=>?_) (ix:=[1]);exact rfl
   | some u =>
    rw [hg] at hev;obtain ⟨i,hl⟩:=of_lookup hg;rw [hev];refine pQ Tryz.func109 λhbx hbad Q hQ=>?_;refine go2 34 [.own,.own,.b 1 0,.b 1 4] [] ?_;intro b1 b2;refine zQ b (es:=lK env) (td:=.string) (key:=.string x.nm) (r:=some (i,.agg #[Vi u.k,Vi u.n,.string u.s])) (.agg #[Vi 0,Vi 0,Ve]) (.tuple #[.agg #[Vi u.k,Vi u.n,.string u.s],.bool true]) (λa w hJ=>MapAt.now (hmp.sees (Sees.refl _)) hJ) (hl) ?_;refine go1 24 [.own,.b 0 0,.b 0 0,.b 1 0] [] ?_;intro b3;refine hQ.to [.agg #[Vi u.k,Vi u.n,.string u.s]] (λH sH=>?_) (ix:=[1]);exact rfl
  ·rw [Bj (by omega),Bj (by omega)] at hev;have hap:=arity_pos h1 h2;obtain ⟨vs,hr,hvs⟩:=hx.form;obtain ⟨A',c',e',-⟩:=hr.form;rw [sK hvs.len] at e';simp only [Tk] at e';obtain ⟨rfl,rfl,rfl⟩:=e'
   by_cases h15:x.op=15\/x.op=16
   ·have ha:arity x.op=2:=by unfold arity; rw [Bj (by omega),Bj (by omega),Bj (by omega)]
    obtain ⟨y0,A0,n0,c0,hy0,-,-⟩:=args_at hvs (i:=0) (by omega);obtain ⟨y1,A1,n1,c1,hy1,hi1,hrow1⟩:=args_at hvs (i:=1) (by omega);have ok0:=hok y0 (Ej hy0);have ok1:=hok y1 (Ej hy1);have hf:=λH q1 q2=>first_any env b x y0 (.slice A x.args.length c) H q1 q2 hy0 hof ok0;have hb:=λH q1 q2=>bool_any env b y1 (.slice A1 n1 c1) H q1 q2 (hof y1 (Ej hy1)) ok1;rw [Cj h15,hd_eval hy0,hd_eval hy1] at hev;have hlen:1 < x.args.length:=by omega
    have hfk:=first_known ok0;generalize hF:eQ (mK env y0)=f at *;obtain ⟨⟨fk,fn,fs⟩,fb⟩:=f;simp only at hev hfk hf;rcases h15 with h15 | h15
    ·have ho:(x.op == 16)=false:=by rw [h15]; rfl
     rw [ho] at hev;rw [h15] at hf ⊢
     cases fb with
     | false =>
      rw [Cj (.inl rfl)] at hev;rw [hev];refine pQ Tryz.func109 λhbx hbad Q hQ=>?_;refine go3 79 [.own,.own,.b 1 0,.b 1 0,.cl 158 #[.map (some b),.agg #[Vi 15,Vi x.k,Vi x.n,.string x.s,.string x.nm,.slice A x.args.length c]] (.tuple #[.agg #[Vi fk,Vi fn,.string fs],.bool false]),.own,.b 0 0,.b 0 0,.b 1 0] [] ?_ (ho:=(Aj (λH sH=>hf _ (hx.sees sH) (hmp.sees sH)) (trivial)));intro b1 b2 b3;refine hQ.to [.agg #[Vi fk,Vi fn,.string fs]] (λH sH=>?_) (ix:=[1]);exact rfl
     | true =>
      obtain ⟨e1,e2,e3⟩:=hfk rfl;rw [<- e1] at e2 e3;simp only at e2 e3;subst e2;rcases e3 with rfl | rfl
      ·rw [Cj (.inr (by decide))] at hev;rw [hev];refine pQ Tryz.func109 λhbx hbad Q hQ=>?_;refine go3 79 [.own,.own,.b 1 0,.b 1 0,.cl 158 #[.map (some b),.agg #[Vi 15,Vi x.k,Vi x.n,.string x.s,.string x.nm,.slice A x.args.length c]] (.tuple #[.agg #[Vi 2,Vi 0,.string fs],.bool true]),.own,.b 0 0,.b 0 1,.b 2 0,.b 0 0,.b 1 0] [] ?_ (ho:=(Aj (λH sH=>hf _ (hx.sees sH) (hmp.sees sH)) (trivial)));intro b1 b2 b3;refine hQ.to [.agg #[Vi 2,Vi 0,.string fs]] (λH sH=>?_) (ix:=[1]);exact rfl
      ·rw [Bj (by simp)] at hev;rw [hev];refine pQ Tryz.func109 λhbx hbad Q hQ=>?_;refine go3 76 [.own,.own,.b 1 0,.b 1 0,.cl 158 #[.map (some b),.agg #[Vi 15,Vi x.k,Vi x.n,.string x.s,.string x.nm,.slice A x.args.length c]] (.tuple #[.agg #[Vi 2,Vi 1,.string fs],.bool true]),.own,.b 0 0,.b 0 1,.b 2 0,.b 2 5] [] ?_ (ho:=(Aj (λH sH=>hf _ (hx.sees sH) (hmp.sees sH)) (trivial)));intro b1 b2 b3;obtain ⟨b4,o5,rfl,-,c6⟩:=RS.row hr (hrow1);refine qQ (c6.sees (Sees.refl _)) ?_;refine go0 9 [.ix b4 o5 x.args.length c 1,.f 0 0,.cl 159 #[.map (some b),.agg #[Vi y1.op,Vi y1.k,Vi y1.n,.string y1.s,.string y1.nm,.slice A1 n1 c1]] (.agg #[Vi ((wJ (mK env y1)).k),Vi ((wJ (mK env y1)).n),.string ((wJ (mK env y1)).s)]),.b 1 0] [] ?_ (ho:=(Aj (by first | omega | (simp; omega)) (Aj (λH sH=>hb _ (hi1.sees sH) (hmp.sees sH)) (trivial))));refine hQ.to [.agg #[Vi ((wJ (mK env y1)).k),Vi ((wJ (mK env y1)).n),.string ((wJ (mK env y1)).s)]] (λH sH=>?_) (ix:=[1]);exact rfl
    ·have ho:(x.op == 16)=true:=by rw [h15]; rfl
     rw [ho] at hev;rw [h15] at hf ⊢
     cases fb with
     | false =>
      rw [Cj (.inl rfl)] at hev;rw [hev];refine pQ Tryz.func109 λhbx hbad Q hQ=>?_;refine go3 82 [.own,.own,.b 1 0,.b 1 0,.cl 158 #[.map (some b),.agg #[Vi 16,Vi x.k,Vi x.n,.string x.s,.string x.nm,.slice A x.args.length c]] (.tuple #[.agg #[Vi fk,Vi fn,.string fs],.bool false]),.own,.b 0 0,.b 0 0,.b 1 0] [] ?_ (ho:=(Aj (λH sH=>hf _ (hx.sees sH) (hmp.sees sH)) (trivial)));intro b1 b2 b3;refine hQ.to [.agg #[Vi fk,Vi fn,.string fs]] (λH sH=>?_) (ix:=[1]);exact rfl
     | true =>
      obtain ⟨e1,e2,e3⟩:=hfk rfl;rw [<- e1] at e2 e3;simp only at e2 e3;subst e2;rcases e3 with rfl | rfl
      ·rw [Bj (by simp)] at hev;rw [hev];refine pQ Tryz.func109 λhbx hbad Q hQ=>?_;refine go3 79 [.own,.own,.b 1 0,.b 1 0,.cl 158 #[.map (some b),.agg #[Vi 16,Vi x.k,Vi x.n,.string x.s,.string x.nm,.slice A x.args.length c]] (.tuple #[.agg #[Vi 2,Vi 0,.string fs],.bool true]),.own,.b 0 0,.b 0 1,.b 2 0,.b 2 5] [] ?_ (ho:=(Aj (λH sH=>hf _ (hx.sees sH) (hmp.sees sH)) (trivial)));intro b1 b2 b3;obtain ⟨b4,o5,rfl,-,c6⟩:=RS.row hr (hrow1);refine qQ (c6.sees (Sees.refl _)) ?_;refine go0 9 [.ix b4 o5 x.args.length c 1,.f 0 0,.cl 159 #[.map (some b),.agg #[Vi y1.op,Vi y1.k,Vi y1.n,.string y1.s,.string y1.nm,.slice A1 n1 c1]] (.agg #[Vi ((wJ (mK env y1)).k),Vi ((wJ (mK env y1)).n),.string ((wJ (mK env y1)).s)]),.b 1 0] [] ?_ (ho:=(Aj (by first | omega | (simp; omega)) (Aj (λH sH=>hb _ (hi1.sees sH) (hmp.sees sH)) (trivial))));refine hQ.to [.agg #[Vi ((wJ (mK env y1)).k),Vi ((wJ (mK env y1)).n),.string ((wJ (mK env y1)).s)]] (λH sH=>?_) (ix:=[1]);exact rfl
      ·rw [Cj (.inr (by decide))] at hev;rw [hev];refine pQ Tryz.func109 λhbx hbad Q hQ=>?_;refine go3 82 [.own,.own,.b 1 0,.b 1 0,.cl 158 #[.map (some b),.agg #[Vi 16,Vi x.k,Vi x.n,.string x.s,.string x.nm,.slice A x.args.length c]] (.tuple #[.agg #[Vi 2,Vi 1,.string fs],.bool true]),.own,.b 0 0,.b 0 1,.b 2 0,.b 0 0,.b 1 0] [] ?_ (ho:=(Aj (λH sH=>hf _ (hx.sees sH) (hmp.sees sH)) (trivial)));intro b1 b2 b3;refine hQ.to [.agg #[Vi 2,Vi 1,.string fs]] (λH sH=>?_) (ix:=[1]);exact rfl
   ·by_cases h17:x.op=17
    ·have ha:x.args.length=3:=by rw [h7,h17]; rfl
     obtain ⟨y0,A0,n0,c0,hy0,-,-⟩:=args_at hvs (i:=0) (by omega);obtain ⟨y1,A1,n1,c1,hy1,hi1,hrow1⟩:=args_at hvs (i:=1) (by omega);obtain ⟨y2,A2,n2,c2,hy2,hi2,hrow2⟩:=args_at hvs (i:=2) (by omega);have ok0:=hok y0 (Ej hy0);have ho1:=hof y1 (Ej hy1);have ho2:=hof y2 (Ej hy2);have hf:=λH q1 q2=>first_any env b x y0 (.slice A x.args.length c) H q1 q2 hy0 hof ok0;rw [Bj h15,Cj h17,hd_eval hy0,hd_eval hy1,hd_eval hy2] at hev;have hfk:=first_known ok0;generalize hF:eQ (mK env y0)=f at *;obtain ⟨⟨fk,fn,fs⟩,fb⟩:=f;simp only at hev hfk hf;rw [h17] at hf ⊢
     cases fb with
     | false =>
      rw [Cj rfl] at hev;rw [hev];refine pQ Tryz.func109 λhbx hbad Q hQ=>?_;refine go3 80 [.own,.own,.b 1 0,.b 1 0,.cl 158 #[.map (some b),.agg #[Vi 17,Vi x.k,Vi x.n,.string x.s,.string x.nm,.slice A x.args.length c]] (.tuple #[.agg #[Vi fk,Vi fn,.string fs],.bool false]),.own,.b 0 0,.b 0 0,.b 1 0] [] ?_ (ho:=(Aj (λH sH=>hf _ (hx.sees sH) (hmp.sees sH)) (trivial)));intro b1 b2 b3;refine hQ.to [.agg #[Vi fk,Vi fn,.string fs]] (λH sH=>?_) (ix:=[1]);exact rfl
     | true =>
      rw [Bj (by simp)] at hev;obtain ⟨e1,e2,e3⟩:=hfk rfl;rw [<- e1] at e2 e3;simp only at e2 e3;subst e2;rcases e3 with rfl | rfl
      ·rw [Bj (by decide)] at hev;rw [hev];refine pQ Tryz.func109 λhbx hbad Q hQ=>?_;refine go3 80 [.own,.own,.b 1 0,.b 1 0,.cl 158 #[.map (some b),.agg #[Vi 17,Vi x.k,Vi x.n,.string x.s,.string x.nm,.slice A x.args.length c]] (.tuple #[.agg #[Vi 2,Vi 0,.string fs],.bool true]),.own,.b 0 0,.b 2 5,.b 0 1] [] ?_ (ho:=(Aj (λH sH=>hf _ (hx.sees sH) (hmp.sees sH)) (trivial)));intro b1 b2 b3;obtain ⟨b4,o5,rfl,-,c6⟩:=RS.row hr (hrow2);refine qQ (c6.sees (Sees.refl _)) ?_;refine go0 9 [.ix b4 o5 x.args.length c 2,.f 0 0,.cl 109 #[.map (some b),.agg #[Vi y2.op,Vi y2.k,Vi y2.n,.string y2.s,.string y2.nm,.slice A2 n2 c2]] (.agg #[Vi ((mK env y2).k),Vi ((mK env y2).n),.string ((mK env y2).s)]),.b 1 0] [] ?_ (ho:=(Aj (by first | omega | (simp; omega)) (Aj (λH sH=>ho2 _ _ (hi2.sees sH) (hmp.sees sH)) (trivial))));refine hQ.to [.agg #[Vi ((mK env y2).k),Vi ((mK env y2).n),.string ((mK env y2).s)]] (λH sH=>?_) (ix:=[1]);exact rfl
      ·rw [Cj rfl] at hev;rw [hev];refine pQ Tryz.func109 λhbx hbad Q hQ=>?_;refine go3 80 [.own,.own,.b 1 0,.b 1 0,.cl 158 #[.map (some b),.agg #[Vi 17,Vi x.k,Vi x.n,.string x.s,.string x.nm,.slice A x.args.length c]] (.tuple #[.agg #[Vi 2,Vi 1,.string fs],.bool true]),.own,.b 0 0,.b 2 5,.b 0 1] [] ?_ (ho:=(Aj (λH sH=>hf _ (hx.sees sH) (hmp.sees sH)) (trivial)));intro b1 b2 b3;obtain ⟨b4,o5,rfl,-,c6⟩:=RS.row hr (hrow1);refine qQ (c6.sees (Sees.refl _)) ?_;refine go0 9 [.ix b4 o5 x.args.length c 1,.f 0 0,.cl 109 #[.map (some b),.agg #[Vi y1.op,Vi y1.k,Vi y1.n,.string y1.s,.string y1.nm,.slice A1 n1 c1]] (.agg #[Vi ((mK env y1).k),Vi ((mK env y1).n),.string ((mK env y1).s)]),.b 1 0] [] ?_ (ho:=(Aj (by first | omega | (simp; omega)) (Aj (λH sH=>ho1 _ _ (hi1.sees sH) (hmp.sees sH)) (trivial))));refine hQ.to [.agg #[Vi ((mK env y1).k),Vi ((mK env y1).n),.string ((mK env y1).s)]] (λH sH=>?_) (ix:=[1]);exact rfl
    ·rw [Bj h15,Bj h17] at hev;have hall:=λH q1 q2=>all_any env b x (.slice A x.args.length c) H q1 q2 hof (by omega);have hlv:(nK env x.args).length=arity x.op:=by rw [oK,Ij,h7]
     have hvk:∀ v∈nK env x.args,OkV v:=λv hv=>by
      rw [oK] at hv;obtain ⟨y,hy,rfl⟩:=Rj.1 hv;exact hok y hy
     rcases hk:xV none (nK env x.args) with _ | u
     ·rw [hk] at hev hall;obtain ⟨-,g⟩:=lack_none hk;have hap2:=λsl H q=>apply_any x.op (nK env x.args) sl H q (λv hv=>ok_known (hvk v hv) (g v hv).2 (g v hv).1) h1 h2 (by omega) (by omega) h17 hlv;rw [hev];refine pQ Tryz.func109 λhbx hbad Q hQ=>?_;refine go2 57 [.own,.own,.b 1 0,.b 1 5] [(16,.bool (x.op == 1),.bool false),(20,.bool (x.op == 2),.bool false),(32,.bool (x.op == 15),.bool false),(33,.bool (x.op == 16),.bool false),(59,.bool (x.op == 17),.bool false)] ?_ (hc:=(Aj (Dj Value.bool (Lj.2 (by omega))) (Aj (Dj Value.bool (Lj.2 (by omega))) (Aj (Dj Value.bool (Lj.2 (by omega))) (Aj (Dj Value.bool (Lj.2 (by omega))) (Aj (Dj Value.bool (Lj.2 (by omega))) (trivial)))))));intro b1 b2;refine kQ (λH sH=>hall _ (hx.sees sH) (hmp.sees sH)) ?_; rintro _ W3 S4 ⟨Aq,nq,cq,uq,rfl,rfl,hq⟩;refine go1 24 [.own,.b 0 0,.b 0 0,.b 2 0] [] ?_;intro b5;have hq2:=(hq rfl).2;refine go0 5 [.cl 161 #[Vi x.op,.slice Aq nq cq] (.agg #[Vi ((lJ x.op (nK env x.args)).k),Vi ((lJ x.op (nK env x.args)).n),.string ((lJ x.op (nK env x.args)).s)]),.b 1 0] [] ?_ (ho:=(Aj (λH sH=>hap2 _ _ (hq2.sees sH)) (trivial)));refine hQ.to [.agg #[Vi ((lJ x.op (nK env x.args)).k),Vi ((lJ x.op (nK env x.args)).n),.string ((lJ x.op (nK env x.args)).s)]] (λH sH=>?_) (ix:=[1]);exact rfl
     ·rw [hk] at hev hall;obtain ⟨hu45,-⟩:=lack_some hk (λw hw=>by cases hw);rw [hev];refine pQ Tryz.func109 λhbx hbad Q hQ=>?_;refine go2 57 [.own,.own,.b 1 0,.b 1 5] [(16,.bool (x.op == 1),.bool false),(20,.bool (x.op == 2),.bool false),(32,.bool (x.op == 15),.bool false),(33,.bool (x.op == 16),.bool false),(59,.bool (x.op == 17),.bool false)] ?_ (hc:=(Aj (Dj Value.bool (Lj.2 (by omega))) (Aj (Dj Value.bool (Lj.2 (by omega))) (Aj (Dj Value.bool (Lj.2 (by omega))) (Aj (Dj Value.bool (Lj.2 (by omega))) (Aj (Dj Value.bool (Lj.2 (by omega))) (trivial)))))));intro b1 b2;refine kQ (λH sH=>hall _ (hx.sees sH) (hmp.sees sH)) ?_; rintro _ W3 S4 ⟨Aq,nq,cq,uq,rfl,rfl,hq⟩;refine go1 25 [.own,.b 0 0,.b 0 0,.b 0 0,.b 1 0] [(87,.bool (u.k != 0),.bool true)] ?_ (hc:=(Aj (Dj Value.bool (Hk.2 (by omega))) (trivial)));intro b5;refine hQ.to [.agg #[Vi u.k,Vi u.n,.string u.s]] (λH sH=>?_) (ix:=[1]);exact rfl
theorem check_pending (h:Vw):C0 Tryz.prog 85 #[.agg #[Vi 4,Vi 0,.string ⟨#[]⟩]] h (λv _=>v=Vi 0):=by
 refine pQ Tryz.func85 λhbx hbad Q hQ=>?_;refine go1 70 [.own,.b 0 0,.b 0 1,.b 0 2] [] ?_;intro b1;refine hQ.to [Vi 0] (λH sH=>?_);exact rfl
theorem check_fault (n:Int) (h:Vw) (h0:1 <= n) (h1:n <= 15):C0 Tryz.prog 85 #[.agg #[Vi 5,Vi n,.string ⟨#[]⟩]] h (λv _=>v=Vi 0):=by
 refine pQ Tryz.func85 λhbx hbad Q hQ=>?_;refine go1 82 [.own,.b 0 0,.b 0 1,.b 0 1,.b 0 2] [(41,.bool (decide (n < 1)),.bool false),(45,.bool (decide (n > 15)),.bool false)] ?_ (hc:=(Aj (Dj Value.bool (Kj (by omega))) (Aj (Dj Value.bool (Kj (by omega))) (trivial))));intro b1;refine hQ.to [Vi 0] (λH sH=>?_);exact rfl
theorem check_okv (v:Vl) (h:Vw) (hv:OkV v):C0 Tryz.prog 85 #[v.val] h (λr _=>r=Vi 0):=by
 rcases hv with hv | rfl | ⟨h1,h2,h3,h4⟩
 ·exact C0.of_gives (λw=>value_check v.k v.n v.s w hv) h
 ·exact check_pending h
 ·obtain ⟨k,n,s⟩:=v;simp only at h1 h2 h3 h4;subst h1 h4;exact check_fault n h h2 h3
def addF (env:Env) (p:ByteArray × Vl):Env:=match env.get p.1 with
 | some _=>env
 | none=>env++[p]
def factsE (l:Env):Env:=l.foldl addF []
theorem factsE_snoc (l:Env) (p:ByteArray × Vl):factsE (l++[p])=addF (factsE l) p:=by unfold factsE; rw [Rw]; rfl
theorem envEs_snoc (l:Env) (p:ByteArray × Vl):lK (l++[p])=lK l++[(Vt p.1,p.2.val)]:=by simp [lK,xY]
theorem facts_any (l:Env) (sl:Value) (h:Vw) (hr:RS h 7 sl (wK l)) (hok:∀ p∈l,OkV p.2) (hl:l.length <= 1000) :
  C0 Tryz.prog 108 #[sl] h (λv h'=>∃ b,v=.tuple #[.map (some b),Vi 0] /\ MapAt h' b (lK (factsE l))):=by
 obtain ⟨A,cap,rfl,-,-,-⟩:=hr.form;rw [Ij] at *;generalize hL:l.length=len at *;refine pQ Tryz.func108 λhbx hbad Q hQ=>?_;refine go0 8 [] [] ?_;refine g_mapmake ?_; intro b1;refine go0 12 [] [] ?_;refine yQ [0,1,0,1,1] [.block 0,.seq [1,1,1]] (λ(k:Nat) X=>∃ (W2:Vw) ,X W2 [(4,.map (some b1)),(11,.slice A len cap),(12,Vi (len:Int)),(13,Vi (k:Int))] [.map b1 (lK (factsE (l.take k)))] [] /\ Sees h W2 /\ (k <= len)) (λk=>len - k) (0) (λX q=>⟨h,q _ _ _ _ ⟨rfl,by kernel_rfl⟩,Sees.refl _,Mj _⟩) ?_;rintro k a w ⟨W2,hJ,S3,hk⟩; refine dV hJ ?_; clear hJ a w;refine go0 6 [] [] ?_;rcases (by omega:k < len\/len=k) with hlt | hke
 ·obtain ⟨p,hp⟩:∃ p,l[k]?=some p:=⟨_,Gj (by omega)⟩;have hrow:(wK l)[k]?=some (fcRow p):=by rw [Oj,hp]; rfl
  have hck:=λH=>check_okv p.2 H (hok p (Ej hp));have htk:factsE (l.take (k + 1))=addF (factsE (l.take k)) p:=by rw [cZ l k p hp,factsE_snoc]
  generalize factsE (l.take k)=env at *
  cases hg:env.get p.1 with
  | some u =>
   obtain ⟨i,hi⟩:=of_lookup hg;refine jV (t:=decide ((k:Int) < (len:Int))) (Jj (by omega)) ?_;refine go0 6 [] [] ?_;obtain ⟨b4,o5,rfl,-,c6⟩:=RS.row hr (hrow);refine qQ (c6.sees S3) ?_;refine go1 29 [.ix b4 o5 len cap k,.f 0 0,.own,.b 0 0,.b 0 4,.cl 85 #[.agg #[Vi p.2.k,Vi p.2.n,.string p.2.s]] (Vi 0),.b 0 0] [] ?_ (ho:=(Aj (by first | omega | (simp; omega)) (Aj (λH sH=>hck _) (trivial))));intro b7;refine g_mapget 1 b1 (es:=lK (env)) (td:=.string) (key:=.string p.1) (r:=some (i,.agg #[Vi u.k,Vi u.n,.string u.s])) (.agg #[Vi 0,Vi 0,Ve]) (.tuple #[.agg #[Vi u.k,Vi u.n,.string u.s],.bool true]) (hi) ?_;refine go1 22 [.own,.b 0 0] [(37,Vi (IntKind.i64.wrap ((k:Int) + 1)),Vi ((k:Int) + 1))] ?_ (hc:=(Aj (jJ (by omega) (by omega)) (trivial)));intro b8;refine wQ [(4,.map (some b1)),(11,.slice (some ⟨b4,o5,none⟩) len cap),(12,Vi (len:Int)),(13,Vi ((k:Int) + 1))] [.map b1 (lK (env))] [] ?_;exact iV (k + 1) (λX q=>⟨W2,q _ _ _ _ (mY (by rw [htk]; unfold addF; rw [hg]; try rfl)),S3,by omega⟩)
  | none =>
   refine jV (t:=decide ((k:Int) < (len:Int))) (Jj (by omega)) ?_;refine go0 6 [] [] ?_;obtain ⟨b9,o10,rfl,-,c11⟩:=RS.row hr (hrow);refine qQ (c11.sees S3) ?_;refine go1 29 [.ix b9 o10 len cap k,.f 0 0,.own,.b 0 0,.b 0 4,.cl 85 #[.agg #[Vi p.2.k,Vi p.2.n,.string p.2.s]] (Vi 0),.b 0 0] [] ?_ (ho:=(Aj (by first | omega | (simp; omega)) (Aj (λH sH=>hck _) (trivial))));intro b12;refine g_mapget 1 b1 (es:=lK (env)) (td:=.string) (key:=.string p.1) (r:=none) (.agg #[Vi 0,Vi 0,Ve]) (.tuple #[.agg #[Vi 0,Vi 0,Ve],.bool false]) (of_miss hg) ?_;refine go1 21 [.own,.b 0 0,.b 1 0,.b 1 4] [] ?_;intro b13;refine aV 2 b1 (es:=lK (env)) (td:=.string) (key:=.string p.1) (of_miss hg) ?_;refine go0 7 [] [(37,Vi (IntKind.i64.wrap ((k:Int) + 1)),Vi ((k:Int) + 1))] ?_ (hc:=(Aj (jJ (by omega) (by omega)) (trivial)));refine wQ [(4,.map (some b1)),(11,.slice (some ⟨b9,o10,none⟩) len cap),(12,Vi (len:Int)),(13,Vi ((k:Int) + 1))] [.map b1 ((lK (env))++[(Vt p.1,.agg #[Vi p.2.k,Vi p.2.n,.string p.2.s])])] [] ?_;exact iV (k + 1) (λX q=>⟨W2,q _ _ _ _ (mY (by rw [htk]; unfold addF; rw [hg]; simp only; rw [envEs_snoc]; try rfl)),S3,by omega⟩)
 ·skip;have hta:l.take k=l:=by rw [<- hke, <- hL,Pk]
  rw [hta];refine tQ (t:=decide ((k:Int) < (len:Int))) (Kj (by omega)) ?_;refine go0 2 [] [] ?_;refine xQ ?_;refine go0 10 [] [] ?_;refine wQ [(2,.map (some b1)),(3,Vi 0)] [.map b1 (lK (factsE l))] [] ?_;refine hQ.toJ [.map (some b1),Vi 0] [] (λa w hJ=>?_);exact ⟨b1,rfl,hJ.mapOut 0 (by kernel_rfl) rfl⟩
theorem get_snoc (s:ByteArray) (p:ByteArray × Vl):∀ l:Env,Env.get (l++[p]) s=match Env.get l s with | some v=>some v | none=>if s == p.1 then some p.2 else none
 | []=>by show Env.get [p] s=_; obtain ⟨a,b⟩:=p; unfold Env.get; cases s == a <;> rfl
 | (k,v) :: l=>by
  show Env.get ((k,v) :: (l++[p])) s=_;rw [Env.get,Env.get]
  cases s == k
  ·simp only [Bool.false_eq_true,if_false]; exact get_snoc s p l
  ·rfl
theorem get_addF (s:ByteArray) (p:ByteArray × Vl) (env:Env):(addF env p).get s=match env.get s with | some v=>some v | none=>if s == p.1 then some p.2 else none:=by
 unfold addF
 cases hg:env.get p.1 with
 | none=>simp only; exact get_snoc s p env
 | some u =>
  simp only
  cases hs:env.get s with
  | some v=>rfl
  | none =>
   simp only
   by_cases he:(s == p.1)=true
   ·have:s=p.1:=(Xk _ _).1 he
    rw [this] at hs; rw [hs] at hg; cases hg
   ·rw [Bj he]
theorem factsE_get (s:ByteArray):∀ l:Env,(factsE l).get s=l.get s:=by
 have key:∀ (l env:Env),(l.foldl addF env).get s=match env.get s with | some v=>some v | none=>l.get s:=by
  intro l
  induction l with
  | nil=>intro env; simp only [List.foldl_nil]; cases env.get s <;> rfl
  | cons p l ih =>
   intro env;rw [Kv,ih,get_addF];obtain ⟨k,v⟩:=p
   cases hs:env.get s with
   | some u=>rfl
   | none =>
    simp only;rw [Env.get]
    cases s == k <;> rfl
 intro l;exact key l []
theorem get_mem {s:ByteArray} {v:Vl}:∀ {l:Env},Env.get l s=some v -> (s,v)∈l
 | [],h=>by cases h
 | (k,u) :: l,h=>by
  rw [Env.get] at h
  by_cases he:(s == k)=true
  ·rw [Cj he] at h
   have:s=k:=(Xk _ _).1 he
   simp only [Yj] at h;subst this h; simp
  ·rw [Bj he] at h;exact Gk _ (get_mem h)
theorem factsE_ok {l:Env} (h:∀ p∈l,OkV p.2):EnvOk (factsE l):=λs v hs=>by
 rw [factsE_get] at hs;exact h _ (get_mem hs)
theorem ev_congr {e f:Env} (h:∀ s,e.get s=f.get s):∀ (m:Nat) (x:Ex),(szE x).1 <= m -> mK e x=mK f x
 | 0,x,hm=>by have:=szE_pos x; omega
 | m + 1,x,hm=>by
  have hse:=zY x;rw [hse] at hm;simp only at hm;have hl:nK e x.args=nK f x.args:=by
   rw [oK,oK];exact List.map_congr_left λy hy=>ev_congr h m y (by have:=(szL_mem hy).1; omega)
  rw [evalE_eq e x,evalE_eq f x,hl,h]
theorem ev_facts (l:Env) (x:Ex):mK (factsE l) x=mK l x:=ev_congr (λs=>factsE_get s l) _ x (Hj _)
theorem eval_any (x:Ex) (v:Value) (l:Env) (sl:Value) (h:Vw) (hx:IsArgs h x v) (hw:WfE x) (hb:(szE x).1 <= 60) (hb2:(szE x).2 <= 12) (hr:RS h 7 sl (wK l)) (hok:∀ p∈l,OkV p.2) (hl:l.length <= 1000) :
  C0 Tryz.prog 58 #[.agg #[Vi x.op,Vi x.k,Vi x.n,.string x.s,.string x.nm,v],sl] h (λr _=>r=.tuple #[(mK l x).val,Vi 0]):=by
 obtain ⟨A,na,ca,rfl⟩:=hx.slice;obtain ⟨A2,c2,rfl,-,-,-⟩:=hr.form;rw [Ij] at *;have hck:=λH hq=>check_any x (.slice A na ca) H hq hw (by omega);rw [show chkE x=0 from by unfold chkE; rw [Bj (by omega),Bj (by omega)]] at hck;have hfa:=λH hq=>facts_any l (.slice A2 l.length c2) H hq hok hl;have hof:=λb H q1 q2=>of_any (factsE l) (factsE_ok hok) b _ x (.slice A na ca) H (Hj _) q1 hw q2;rw [ev_facts] at hof;refine pQ Tryz.func58 λhbx hbad Q hQ=>?_;refine go2 27 [.own,.own,.b 1 0,.cl 107 #[.agg #[Vi x.op,Vi x.k,Vi x.n,.string x.s,.string x.nm,.slice A na ca]] (Vi 0)] [] ?_ (ho:=(Aj (λH sH=>hck _ (hx.sees sH)) (trivial)));intro b1 b2;refine kQ (λH sH=>hfa _ (hr.sees sH)) ?_; rintro _ W3 S4 ⟨bm,rfl,hmp⟩;refine go0 21 [.b 1 0] [] ?_;refine go0 6 [.cl 109 #[.map (some bm),.agg #[Vi x.op,Vi x.k,Vi x.n,.string x.s,.string x.nm,.slice A na ca]] (.agg #[Vi ((mK l x).k),Vi ((mK l x).n),.string ((mK l x).s)]),.b 0 0] [] ?_ (ho:=(Aj (λH sH=>hof _ _ (hx.sees (S4.trans sH)) (hmp.sees sH)) (trivial)));refine hQ.to [.agg #[Vi ((mK l x).k),Vi ((mK l x).n),.string ((mK l x).s)],Vi 0] (λH sH=>?_) (ix:=[0]);exact rfl
theorem env_hit (env:Env) (n:ByteArray) (v:Vl):Env.get ((n,v) :: env) n=some v:=by
 unfold Env.get;rw [Cj ((Xk n n).2 rfl)]
theorem env_miss (env:Env) {n s:ByteArray} (v:Vl) (h:s≠n):Env.get ((n,v) :: env) s=env.get s:=by
 conv=>lhs; unfold Env.get
 rw [Bj];intro hb;exact h ((Xk s n).1 hb)
def evalOp (g:Option Vl) (op k n:Int) (s:ByteArray) (vs:List Vl):Vl :=
 if op=1 then ⟨k,n,s⟩
 else if op=2 then (match g with | some v=>v | none=>uK 5)
 else if op=15\/op=16 then
  (if (eQ (hdV vs 0)).2=false\/((eQ (hdV vs 0)).1.n == 1)=(op == 16) then (eQ (hdV vs 0)).1 else wJ (hdV vs 1))
 else if op=17 then
  (if (eQ (hdV vs 0)).2=false then (eQ (hdV vs 0)).1 else if (eQ (hdV vs 0)).1.n=1 then hdV vs 1 else hdV vs 2)
 else (match xV none vs with | some v=>v | none=>lJ op vs)
theorem evalE_op (env:Env) (x:Ex):mK env x=evalOp (env.get x.nm) x.op x.k x.n x.s (nK env x.args):=by
 obtain ⟨a,b,c,d,e,l⟩:=x;rw [mK]; rfl
theorem evalOp_get {g g':Option Vl} {op k n:Int} {s:ByteArray} {vs:List Vl} (h:op≠2):evalOp g op k n s vs=evalOp g' op k n s vs:=by
 unfold evalOp;rw [Bj h,Bj h]
theorem eval_local {e1 e2:Env} {x:Ex} (h:∀ s∈yX x,e1.get s=e2.get s):mK e1 x=mK e2 x:=by
 revert h
 refine ex_ind (p:=λx=>(∀ s∈yX x,e1.get s=e2.get s) -> mK e1 x=mK e2 x) (λx ih h=>?_) x;rw [zX] at h;have hl:nK e1 x.args=nK e2 x.args:=by
  rw [oK,oK];exact List.map_congr_left λy hy=>ih y hy λs hs=>h s (Vj _ (mem_refsL.2 ⟨y,hy,hs⟩))
 rw [evalE_op,evalE_op,hl]
 by_cases h2:x.op=2
 ·rw [h x.nm (by rw [Cj h2]; simp)]
 ·exact evalOp_get h2
def Grows (w v:Vl):Prop:=w.k=4\/v=w\/(v.k=5 /\ w.k=5)
theorem Grows.rfl' (v:Vl):Grows v v:=.inr (.inl rfl)
inductive GrowsL:List Vl -> List Vl -> Prop
 | nil:GrowsL [] []
 | cons {w v:Vl} {l m:List Vl} (h:Grows w v) (k:GrowsL l m):GrowsL (w :: l) (v :: m)
theorem GrowsL.hd {l m:List Vl} (h:GrowsL l m) (i:Nat):Grows (hdV l i) (hdV m i):=by
 induction h generalizing i with
 | nil=>exact .rfl' _
 | cons h k ih =>
  cases i with
  | zero=>exact h
  | succ i=>exact ih i
theorem GrowsL.map {f g:Ex -> Vl}:∀ {l:List Ex},(∀ y∈l,Grows (f y) (g y)) -> GrowsL (l.map f) (l.map g)
 | [],_=>.nil
 | x :: l,h=>.cons (h x (by simp)) (GrowsL.map λy hy=>h y (by simp [hy]))
end Go.Proofs.YthgcgciceejicaaGreatDoor
