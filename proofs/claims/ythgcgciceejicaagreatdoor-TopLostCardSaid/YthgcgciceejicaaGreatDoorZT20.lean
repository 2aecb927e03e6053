/-
  Contracts of package expr's reader where the text is a formula: is, take, want, op.
-/
import Derived.Test.YthgcgciceejicaaGreatDoorZT17
import Derived.Test.YthgcgciceejicaaGreatDoorZT19
set_option maxRecDepth 100000
namespace Go.Proofs.YthgcgciceejicaaGreatDoor
open Go.RowKit
set_option linter.unusedVariables false
abbrev eZ (T:List TokA):List (List Value):=T.map tcells
def tkA (A:Option Addr) (C:Nat):Nat -> Option Addr
 | 0=>A
 | k + 1=>if C - k=1 then tkA A C k else (tkA A C k).map (·.add (1 * 6))
theorem tk_at {h:Vw} {A:Option Addr} {N C:Nat} {T:List TokA} (hr:RS h 6 (.slice A N C) (eZ T)):∀ k,k <= T.length -> RS h 6 (.slice (tkA A C k) (N - k) (C - k)) ((eZ T).drop k)
 | 0,_=>by simpa [tkA] using hr
 | k + 1,hk=>by
  have:=(tk_at hr k (by omega)).drop 1 (by simp; omega)
  rw [List.drop_drop] at this;exact this
abbrev rdL (v:Value) (en:Int):List Value:=v :: Vi en :: rY
theorem toks_eq (x:List UInt8) (s:ByteArray):((⟨x.toArray⟩:ByteArray).toList == s.toList)=(x == s.data.toList):=by rw [Lib.toList_data,Lib.toList_data]
def hdK (l:List TokA) (s:List UInt8):Bool:=match l with
 | x :: _=>x.t.kd != 3 && x.t.s == s
 | []=>false
theorem hdK_drop (T:List TokA) (k:Nat) (s:List UInt8):hdK (T.drop k) s=isK (T.map (·.t)) k s:=by
 unfold isK;rw [Oj]
 cases h:T.drop k with
 | nil =>
  rw [Gv (by have:=Dj List.length h; simp at this; omega)]; rfl
 | cons x l =>
  have:T[k]?=some x:=by have:=Dj (λq=>q[0]?) h; simpa using this
  rw [this]; rfl
theorem is_no (A:Option Addr) (c:Nat) (en:Int) (s:ByteArray) (b:Nat) (h:Vw):C1 Tryz.prog 267 #[.pointer (some ⟨b,0,none⟩),.string s] h b (rdL (.slice A 0 c) en) (λv cs _=>v=.bool false /\ cs=rdL (.slice A 0 c) en):=by
 refine pQ Tryz.func267 λhbx hbad Q hQ=>?_;refine go0 38 [.b 0 0] [] ?_;refine hQ.toB [.bool false] [(.slice A 0 c :: Vi en :: rY)] (λH sH=>?_);exact ⟨_,rfl,rfl,rfl⟩
theorem is_yes (x:TokA) (l:List TokA) (n:Nat) (hn:n=l.length + 1) (A:Option Addr) (c:Nat) (en:Int) (s:ByteArray) (b:Nat) (h:Vw) (hr:RS h 6 (.slice A n c) (eZ (x :: l))) :
  C1 Tryz.prog 267 #[.pointer (some ⟨b,0,none⟩),.string s] h b (rdL (.slice A n c) en) (λv cs _=>v=.bool (x.t.kd != 3 && x.t.s == s.data.toList) /\ cs=rdL (.slice A n c) en):=by
 have hrow:(eZ (x :: l))[0]?=some (tcells x):=rfl
 by_cases hk:x.t.kd=3
 ·refine pQ Tryz.func267 λhbx hbad Q hQ=>?_;refine go0 18 [.b 0 0,.b 0 0] [(10,.bool (decide ((n:Int) > 0)),.bool true)] ?_ (hc:=(Aj (Dj Value.bool (Jj (by omega))) (trivial)));obtain ⟨b1,o2,rfl,-,c3⟩:=RS.row hr (hrow);refine qQ (c3.sees (Sees.refl _)) ?_;refine go0 20 [.ix b1 o2 n c 0,.f 0 0] [(19,.bool (x.t.kd != 3),.bool false)] ?_ (ho:=(Aj (by first | omega | (simp; omega)) (trivial))) (hc:=(Aj (Dj Value.bool (Rk.2 hk)) (trivial)));refine hQ.toB [.bool false] [(.slice (some ⟨b1,o2,none⟩) n c :: Vi en :: rY)] (λH sH=>?_);exact ⟨_,rfl,Dj Value.bool (by rw [hk]; rfl),rfl⟩
 ·refine pQ Tryz.func267 λhbx hbad Q hQ=>?_;refine go0 18 [.b 0 0,.b 0 0] [(10,.bool (decide ((n:Int) > 0)),.bool true)] ?_ (hc:=(Aj (Dj Value.bool (Jj (by omega))) (trivial)));obtain ⟨b1,o2,rfl,-,c3⟩:=RS.row hr (hrow);refine qQ (c3.sees (Sees.refl _)) ?_;refine go0 10 [.ix b1 o2 n c 0,.f 0 0,.b 0 0] [(19,.bool (x.t.kd != 3),.bool true)] ?_ (ho:=(Aj (by first | omega | (simp; omega)) (trivial))) (hc:=(Aj (Dj Value.bool (Hk.2 hk)) (trivial)));have c4:=RS.cell hr (hrow);refine qQ (c4.sees (Sees.refl _)) ?_;refine go0 10 [.ix b1 o2 n c 0,.f 0 2] [] ?_ (ho:=(Aj (by first | omega | (simp; omega)) (trivial)));refine hQ.toB [.bool ((⟨x.t.s.toArray⟩:ByteArray).toList == s.toList)] [(.slice (some ⟨b1,o2,none⟩) n c :: Vi en :: rY)] (λH sH=>?_);exact ⟨_,rfl,Dj Value.bool (by rw [Hk.2 hk,Bool.true_and]; exact toks_eq _ _),rfl⟩
theorem is_any {A:Option Addr} {C:Nat} {T:List TokA} (n:Nat) (hn:n=T.length) (en:Int) (s:ByteArray) (k b:Nat) (h:Vw) (hr:RS h 6 (.slice A n C) (eZ T)) :
  C1 Tryz.prog 267 #[.pointer (some ⟨b,0,none⟩),.string s] h b (rdL (.slice (tkA A C k) (n - k) (C - k)) en) (λv cs _=>v=.bool (isK (T.map (·.t)) k s.data.toList) /\ cs=rdL (.slice (tkA A C k) (n - k) (C - k)) en):=by
 rw [<- hdK_drop]
 cases hd:T.drop k with
 | nil =>
  have e:n - k=0:=by have:=Dj List.length hd; simp at this; omega
  rw [e]; exact is_no _ _ _ _ _ _
 | cons x l =>
  have hl:=Dj List.length hd;simp at hl
  have:=tk_at hr k (by omega)
  rw [<- List.map_drop,hd] at this;exact is_yes x l (n - k) (by omega) _ _ _ _ _ _ this
theorem take_c (x:TokA) (l:List TokA) (n:Nat) (hn:n=l.length + 1) (A:Option Addr) (c:Nat) (en:Int) (b:Nat) (h:Vw) (hr:RS h 6 (.slice A n c) (eZ (x :: l))) :
  C1 Tryz.prog 248 #[.pointer (some ⟨b,0,none⟩)] h b (rdL (.slice A n c) en) (λv cs _=>v=.agg #[Vi x.t.kd,Vi x.at',.string ⟨x.t.s.toArray⟩,Vi x.t.vk,Vi x.t.vn,.string ⟨x.t.vs.toArray⟩] /\ cs=rdL (.slice (if c=1 then A else A.map (·.add (1 * 6))) (n - 1) (c - 1)) en):=by
 have hrow:(eZ (x :: l))[0]?=some (tcells x):=rfl;have hc:n <= c:=by
  obtain ⟨A',c',e,h1,-,-⟩:=hr.form;simp only [Tk] at e;obtain ⟨-,e1,rfl⟩:=e;omega
 refine pQ Tryz.func248 λhbx hbad Q hQ=>?_;refine go1 16 [.own,.b 1 0] [] ?_;intro b1;refine tQ (t:=(n:Int) == 0) (Lj.2 (by omega)) ?_;refine go0 8 [.b 1 0] [] ?_;obtain ⟨b2,o3,rfl,-,c4⟩:=RS.row hr (hrow);refine qQ (c4.sees (Sees.refl _)) ?_;obtain ⟨A1,hA1⟩:∃ x,x=(if c=1 then (some ⟨b2,o3,none⟩) else (some ⟨b2,o3,none⟩:Option Addr).map (·.add (1 * 6))):=⟨_,rfl⟩;refine go1 13 [.ix b2 o3 n c 0,.f 0 0,.own,.b 0 0,.b 2 0] [] ?_ (ho:=(Aj (by first | omega | (simp; omega)) (trivial)));intro b5;refine eV (.slice A1 (n - 1) (c - 1)) (λw=>run_lo (t:=295) (e:=338) (x:=(.tmp 22)) (y:=(.const (Vi 1))) (A:=(some ⟨b2,o3,none⟩)) (A':=A1) (n:=n) (cap:=c) (k:=1) (kk:=6) (by kernel_rfl) (by kernel_rfl) (by kernel_rfl) (by omega) Tryz.underlying295 (by kernel_rfl) hA1) ?_;refine go0 12 [.b 2 0,.b 0 0,.b 1 0] [] ?_;refine hQ.toB [.agg #[Vi x.t.kd,Vi x.at',.string ⟨x.t.s.toArray⟩,Vi x.t.vk,Vi x.t.vn,.string ⟨x.t.vs.toArray⟩]] [(.slice A1 (n - 1) (c - 1) :: Vi en :: rY)] (λH sH=>?_) (ix:=[1]);exact ⟨_,rfl,rfl,by rw [hA1]⟩
theorem take_any {A:Option Addr} {C:Nat} {T:List TokA} (n:Nat) (hn:n=T.length) (en:Int) (x:TokA) (k b:Nat) (h:Vw) (hr:RS h 6 (.slice A n C) (eZ T)) (hx:T[k]?=some x) :
  C1 Tryz.prog 248 #[.pointer (some ⟨b,0,none⟩)] h b (rdL (.slice (tkA A C k) (n - k) (C - k)) en) (λv cs _=>v=.agg #[Vi x.t.kd,Vi x.at',.string ⟨x.t.s.toArray⟩,Vi x.t.vk,Vi x.t.vn,.string ⟨x.t.vs.toArray⟩] /\ cs=rdL (.slice (tkA A C (k + 1)) (n - (k + 1)) (C - (k + 1))) en):=by
 have hk:=(Nj.1 hx).1;have this:=tk_at hr k (by omega);rw [<- List.map_drop,Tv hk,(Nj.1 hx).2] at this;exact take_c x _ (n - k) (by simp; omega) _ _ _ _ _ this
def shB (j:Nat):ByteArray:=⟨(shS j).toArray⟩
theorem op_some {T:List Tok} {l k j:Nat} (hj:j < 19) (h:(shN j == 2 && shL j == l && isK T k (shS j))=true) (hno:∀ i,i < j -> (shN i == 2 && shL i == l && isK T k (shS i))=false):opkT T l k=(j:Int):=by
 unfold opkT
 have:(List.range 19).find? (λj=>shN j == 2 && shL j == l && isK T k (shS j))=some j:=by
  rw [List.find?_range_eq_some];exact ⟨h,Jk.2 hj,λi hi=>by rw [hno i hi]; rfl⟩
 rw [this]
theorem op_none {T:List Tok} {l k:Nat} (hno:∀ i,i < 19 -> (shN i == 2 && shL i == l && isK T k (shS i))=false):opkT T l k=0:=by
 unfold opkT
 have:(List.range 19).find? (λj=>shN j == 2 && shL j == l && isK T k (shS j))=none:=by
  rw [List.find?_range_eq_none];exact λi hi=>by rw [hno i hi]; rfl
 rw [this]
theorem no_snoc {p:Nat -> Bool} {j:Nat} (h:∀ i,i < j -> p i=false) (hj:p j=false):∀ i,i < j + 1 -> p i=false:=λi hi=>by
 rcases (by omega:i < j\/i=j) with q | q
 ·exact h i q
 ·subst q; exact hj
theorem opkT_tok {T:List TokA} {l k:Nat} (h:opkT (T.map (·.t)) l k≠0):∃ t,T[k]?=some t:=by
 cases hx:T[k]? with
 | some t=>exact ⟨t,rfl⟩
 | none=>exact absurd (opkT_end (by rw [Oj,hx]; rfl)) h
set_option maxHeartbeats 4000000 in
theorem op_any {A:Option Addr} {C:Nat} {T:List TokA} (n:Nat) (hn:n=T.length) (en:Int) (l k b:Nat) (h:Vw) (hr:RS h 6 (.slice A n C) (eZ T)) :
  C1 Tryz.prog 247 #[.pointer (some ⟨b,0,none⟩),Vi (l:Int)] h b (rdL (.slice (tkA A C k) (n - k) (C - k)) en) (λv cs _=>v=Vi (opkT (T.map (·.t)) l k) /\ cs=rdL (.slice (tkA A C k) (n - k) (C - k)) en):=by
 have hI:=λs H q=>is_any (A:=A) (C:=C) n hn en s k b H q;have hIs:=λj H q=>hI (shB j) H q;have hsb:∀ j,(shB j).data.toList=shS j:=λj=>by unfold shB; simp
 simp only [hsb] at hIs;clear hI hsb;have hS:=λj=>op_some (T:=T.map (·.t)) (l:=l) (k:=k) (j:=j);have hN:=op_none (T:=T.map (·.t)) (l:=l) (k:=k);generalize hP:(λj=>isK (T.map (·.t)) k (shS j))=P at *;have hPj:∀ j,isK (T.map (·.t)) k (shS j)=P j:=λj=>congrFun hP j;simp only [hPj] at hIs hS hN;clear hP hPj;refine pQ Tryz.func247 λhbx hbad Q hQ=>?_;refine go0 16 [.b 0 2] [] ?_;refine yQ [0,1,0,1] [.block 0,.seq [1,1]] (λ(j:Nat) X=>∃ (W1:Vw) ,X W1 [(0,Vp b),(1,Vi (l:Int)),(10,.agg qY),(11,Vi (j:Int))] [.box b (.slice (tkA A C k) (n - k) (C - k) :: Vi en :: rY)] [] /\ Sees h W1 /\ (j <= 19) /\ (∀ i,i < j -> (shN i == 2 && shL i == l && P i)=false)) (λj=>19 - j) (0) (λX q=>⟨h,q _ _ _ _ ⟨rfl,by kernel_rfl⟩,Sees.refl _,Mj _,λi q=>absurd q (Mv _)⟩) ?_;rintro j a w ⟨W1,hJ,S2,hj,hno⟩; refine dV hJ ?_; clear hJ a w;refine go0 6 [] [] ?_;rcases (by omega:j < 19\/j=19) with hlt | hke
 ·have h19:j=0\/j=1\/j=2\/j=3\/j=4\/j=5\/j=6\/j=7\/j=8\/j=9\/j=10\/j=11\/j=12\/j=13\/j=14\/j=15\/j=16\/j=17\/j=18:=by omega
  have hSj:=λq=>hS j hlt q hno;have hsn:=λq=>no_snoc (p:=λi=>shN i == 2 && shL i == l && P i) hno q;generalize hsn':shN j=sn at *;generalize hsl:shL j=sl at *;generalize hsb:shB j=sb at *;refine jV (t:=decide ((j:Int) < 19)) (Jj (by omega)) ?_;refine go0 7 [] [] ?_;refine eV (.agg #[Vt sb,Vi (sl:Int),Vi (sn:Int)]) (λw=>by rw [<- hsb, <- hsl, <- hsn'];  rcases h19 with rfl | rfl | rfl | rfl | rfl | rfl | rfl | rfl | rfl | rfl | rfl | rfl | rfl | rfl | rfl | rfl | rfl | rfl | rfl <;> kernel_rfl) ?_;refine go1 11 [.own,.b 0 0,.b 0 2] [] ?_;intro b3
  by_cases c1:sn=2
  ·refine gV 18 (v:=.bool ((sn:Int) == 2)) (v':=.bool true) (Dj Value.bool (Xj.2 (by omega))) ?_;refine go0 6 [.b 0 1] [] ?_
   by_cases c2:sl=l
   ·refine gV 24 (v:=.bool ((sl:Int) == (l:Int))) (v':=.bool true) (Dj Value.bool (Xj.2 (by omega))) ?_;refine go0 3 [.b 0 0] [] ?_;refine lQ 1 (λH sH=>hIs j _ (hr.sees (S2.trans sH))) ?_; rintro _ _ W4 S5 ⟨rfl,rfl⟩;refine go0 3 [] [] ?_
    by_cases c3:P j=true
    ·refine jV (t:=P j) (c3) ?_;refine go0 9 [] [] ?_;refine xQ ?_;refine go0 2 [] [] ?_;refine hQ.toB [Vi (j:Int)] [(.slice (tkA A C k) (n - k) (C - k) :: Vi en :: rY)] (λH sH=>?_);exact ⟨_,rfl,Dj (Value.int .i64) (hSj (by rw [c1,c2,c3]; simp)).symm,rfl⟩
    ·skip;refine tQ (t:=P j) (Sq.2 c3) ?_
     refine go0 7 [] [(31,Vi (IntKind.i64.wrap ((j:Int) + 1)),Vi ((j:Int) + 1))] ?_ (hc:=(Aj (jJ (by omega) (by omega)) (trivial)));exact iV (j + 1) (λX q=>⟨W4,q _ _ _ _ ⟨rfl,by kernel_rfl⟩,(S2.trans S5),by omega,hsn (by rw [Sq.2 c3,Bool.and_false])⟩)
   ·skip;refine gV 24 (v:=.bool ((sl:Int) == (l:Int))) (v':=.bool false) (Dj Value.bool (Lj.2 (by omega))) ?_
    refine go0 15 [] [(31,Vi (IntKind.i64.wrap ((j:Int) + 1)),Vi ((j:Int) + 1))] ?_ (hc:=(Aj (jJ (by omega) (by omega)) (trivial)));exact iV (j + 1) (λX q=>⟨W1,q _ _ _ _ ⟨rfl,by kernel_rfl⟩,S2,by omega,hsn (by simp [c2])⟩)
  ·skip;refine gV 18 (v:=.bool ((sn:Int) == 2)) (v':=.bool false) (Dj Value.bool (Lj.2 (by omega))) ?_
   refine go0 21 [] [(31,Vi (IntKind.i64.wrap ((j:Int) + 1)),Vi ((j:Int) + 1))] ?_ (hc:=(Aj (jJ (by omega) (by omega)) (trivial)));exact iV (j + 1) (λX q=>⟨W1,q _ _ _ _ ⟨rfl,by kernel_rfl⟩,S2,by omega,hsn (by simp [c1])⟩)
 ·skip;have hn19:∀ i,i < 19 -> (shN i == 2 && shL i == l && P i)=false:=λi hi=>hno i (by omega)
  refine tQ (t:=decide ((j:Int) < 19)) (Kj (by omega)) ?_;refine go0 2 [] [] ?_;refine xQ ?_;refine go0 8 [] [] ?_;refine hQ.toB [Vi 0] [(.slice (tkA A C k) (n - k) (C - k) :: Vi en :: rY)] (λH sH=>?_);exact ⟨_,rfl,Dj (Value.int .i64) (hN hn19).symm,rfl⟩
end Go.Proofs.YthgcgciceejicaaGreatDoor
