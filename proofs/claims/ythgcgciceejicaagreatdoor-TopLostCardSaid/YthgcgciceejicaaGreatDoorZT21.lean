/-
  Contracts of the generator: constant, leaf. Contract of the generator's leaf.
-/
import Derived.Test.YthgcgciceejicaaGreatDoorZT17
set_option maxRecDepth 100000
namespace Go.Proofs.YthgcgciceejicaaGreatDoor
open Go.RowKit
set_option linter.unusedVariables false
theorem rs_cells {h:Vw} {b k:Nat} (rows:List (List Value)) (hk:∀ r∈rows,r.length=k) (hm:rows.length <= maxLen) (c:Cells h b 0 rows.flatten):RS h k (.slice (some ⟨b,0,none⟩) rows.length rows.length) rows:=by
 refine .inr ⟨b,0,rows.length,rfl,Hj _,hm,c.lt,c.ok,λi r hi j v hj=>?_⟩
 have:=c.lies (i * k + j) v (flat_get rows hk i r j v hi hj)
 rwa [<- Xv] at this
theorem tX (n m:Int) (h:1 <= m):0 <= cJ n m /\ cJ n m < m:=⟨sX n m h,rX n m h⟩
theorem yJ (n m:Int) (h:Vw) (h0 : -9223372036854775808 <= n) (h1:n <= 9223372036854775807) (h2:1 <= m) (h3:m <= 9223372036854775807) :
  C0 Tryz.prog 37 #[Vi n,Vi m] h (λv _=>v=Vi (cJ n m)):=C0.of_same (λw=>picked_any n m w h0 h1 h2 h3) h
theorem c_value (kind:Int) (x:RawD) (h:Vw) (h1:1 <= kind) (h3:kind <= 3) (hx:x.ok) :
  C0 Tryz.prog 15 #[Vi kind,.agg #[Vi x.k,Vi x.a,Vi x.b,.string x.t]] h (λv _=>v=.agg #[Vi kind,Vi (valN kind x.k x.a),.string (valS kind x.t)]):=C0.of_gives (λw=>val_any kind x w h1 h3 hx) h
theorem val_lim (kind:Int) (r:RawD) (h1:1 <= kind) (h3:kind <= 3) : -1099511627776 <= valN kind r.k r.a /\ valN kind r.k r.a <= 1099511627776:=by
 rcases val_known kind r.k r.a r.t h1 h3 with ⟨_,⟨a,b⟩,_⟩ | ⟨_,h,_⟩ | ⟨_,h,_⟩
 ·exact ⟨a,b⟩
 ·omega
 ·omega
theorem constant_any (kind:Int) (r:RawD) (h:Vw) (h1:1 <= kind) (h3:kind <= 3) (hr:r.ok) :
  C0 Tryz.prog 140 #[Vi kind,r.val] h (λv _=>v=.agg (exRow (gK kind r) (.slice none 0 0)).toArray):=by
 have hv:=val_lim kind r h1 h3;have hC:=c_value kind r;have e:exRow (gK kind r) (.slice none 0 0)=[Vi 1,Vi kind,Vi (if kind=1 then absI (valN kind r.k r.a) else valN kind r.k r.a),.string (valS kind r.t),.string ⟨#[]⟩,.slice none 0 0]:=rfl;rw [e];clear e;generalize valN kind r.k r.a=vn at *;generalize valS kind r.t=vs at *;refine pQ Tryz.func140 λhbx hbad Q hQ=>?_;refine go3 22 [.own,.own,.b 1 0,.cl 15 #[Vi kind,.agg #[Vi r.k,Vi r.a,Vi r.b,.string r.t]] (.agg #[Vi kind,Vi vn,.string vs]),.own,.b 0 0] [] ?_ (ho:=(Aj (λH sH=>hC _ h1 h3 hr) (trivial)));intro b1 b2 b3
 by_cases hk:kind=1
 ·skip;refine jV (t:=kind == 1) (Xj.2 hk) ?_
  refine go0 19 [.b 0 1,.b 0 1,.b 0 1,.b 0 0,.b 1 0] [(15,Vi (IntKind.i64.wrap (0 - vn)),Vi (0 - vn)),(16,Vi (if (0 - vn) > vn then (0 - vn) else vn),Vi (absI vn))] ?_ (hc:=(Aj (jJ (by omega) (by omega)) (Aj (Dj (Value.int .i64) (by unfold absI; split <;> split <;> omega)) (trivial))));refine hQ.to [.agg #[Vi 1,Vi kind,Vi (absI vn),.string vs,Ve,Vz]] (λH sH=>?_) (ix:=[1]);exact by rw [Cj hk]; rfl
 ·skip;refine tQ (t:=kind == 1) (Lj.2 hk) ?_
  refine go0 10 [.b 0 0,.b 1 0] [] ?_;refine hQ.to [.agg #[Vi 1,Vi kind,Vi vn,.string vs,Ve,Vz]] (λH sH=>?_) (ix:=[1]);exact by rw [Bj hk]; rfl
theorem rawAt_ok {l:List RawD} (hl:∀ r∈l,r.ok) (n:Nat):(aJ l n).ok:=by
 unfold aJ
 split
 ·rename_i r e
  have:=hl r (Ej e)
  obtain ⟨h1,h2,h3,h4⟩:=this;refine ⟨h1,?_,h3,h4⟩
  dsimp only
  rw [IntKind.wrap_i64]
  constructor <;> omega
 ·exact ⟨⟨by simp,by simp⟩,⟨by simp,by simp⟩,⟨by simp,by simp⟩,by exact Mj _⟩
theorem gen_next_none (g:Nat) (sl:Value) (n:Nat) (h:Vw) (hr:RS h 4 sl []) :
  C1 Tryz.prog 36 #[.pointer (some ⟨g,0,none⟩)] h g [sl,Vi (n:Int)] (λv cs' _=>v=(aJ [] n).val /\ cs'=[sl,Vi (n:Int)]):=by
 obtain ⟨A,cap,rfl,-⟩:=hr.form;refine pQ Tryz.func36 λhbx hbad Q hQ=>?_;refine go1 25 [.own,.b 1 0,.b 0 0] [] ?_;intro b1;refine hQ.toB [.agg #[Vi 0,Vi 0,Vi 0,Ve]] [[.slice A 0 cap,Vi (n:Int)]] (λH sH=>?_) (ix:=[0]);exact ⟨_,rfl,rfl,rfl⟩
theorem lV (g:Nat) (l:List RawD) (sl:Value) (n:Nat) (h:Vw) (hr:RS h 4 sl (l.map RawD.cs)) (hn:n < 1000000) (hlen:l.length * 40 <= reachBytes) :
  C1 Tryz.prog 36 #[.pointer (some ⟨g,0,none⟩)] h g [sl,Vi (n:Int)] (λv cs' _=>v=(aJ l n).val /\ cs'=[sl,Vi ((bJ l n:Nat):Int)]):=by
 by_cases hl:l=[]
 ·subst hl;have e:bJ [] n=n:=rfl;rw [e];exact gen_next_none g sl n h hr
 ·have e:bJ l n=n + 1:=Bj hl;rw [e];exact gen_next_some g l sl n h hr hl hn hlen
def zE:Ex:=.mk 0 0 0 ⟨#[]⟩ ⟨#[]⟩ []
abbrev yY (l:List ByteArray):List (List Value):=l.map (λs=>[Vt s])
theorem namesOf_succ {fs:List Fd} {kind:Int} {k:Nat} {f:Fd} (hf:fs[k]?=some f):nW (fs.take (k + 1)) kind=nW (fs.take k) kind++(if f.ty == kind then [f.name] else []):=by
 unfold nW;rw [Ov,hf,List.filter_append,Mk]
 congr 1
 by_cases h:f.ty == kind <;> simp [h]
theorem namesOf_len (fs:List Fd) (kind:Int):(nW fs kind).length <= fs.length:=by
 unfold nW; rw [Ij]; exact List.length_filter_le _ _
theorem sees_free (h:Vw) (m:List Nat):Sees h ⟨h.w,h.bad.filter λb=>m.contains b⟩:=⟨Hj _,λ_ _ _=>rfl,λb hb _=>(Jq.1 hb).1⟩
theorem sees_free' (h:Vw) (m:List Nat):Sees ⟨h.w,m⟩ ⟨h.w,h.bad.filter λb=>m.contains b⟩:=⟨Hj _,λ_ _ _=>rfl,λb hb _=>by simpa using (Jq.1 hb).2⟩
theorem C1.free {P:Program} {f:FuncId} {args:Array Value} {h:Vw} {g:Nat} {cs:List Value} {R:Value -> List Value -> Prop} {m:List Nat} (hg:g∈m) (hc:C1 P f args ⟨h.w,h.bad.filter λb=>m.contains b⟩ g cs (λv c _=>R v c)):C1 P f args h g cs (λv c _=>R v c):=λa1 a2 a3 a4 =>
 hc a1 a2 (λx hx=>Jq.2 ⟨a3 x hx,by rw [Pj.1 hx]; simpa using hg⟩) λb hb=>a4 b (Jq.1 hb).1
theorem leaf_any (g:Nat) (l:List RawD) (sl:Value) (n:Nat) (kind:Int) (fs:List Fd) (fv:Value) (m:List Nat) (h:Vw) (hr:RS h 4 sl (l.map RawD.cs)) (hn:n < 1000000) (hlen:l.length * 40 <= reachBytes) (hok:∀ r∈l,r.ok)
  (h1:1 <= kind) (h3:kind <= 3) (hf:IsFds ⟨h.w,m⟩ fv fs) (hfs:fs.length <= 100) (hg:g∈m) :
  C1 Tryz.prog 88 #[.pointer (some ⟨g,0,none⟩),Vi kind,fv] h g [sl,Vi (n:Int)] (λv cs' _=>v=.agg (exRow (yV (aJ l n) fs kind) (.slice none 0 0)).toArray /\ cs'=[sl,Vi ((bJ l n:Nat):Int)]):=by
 refine C1.free hg ?_;replace hr:=hr.sees (sees_free h m);replace hf:=hf.sees (sees_free' h m);generalize (⟨h.w,h.bad.filter λb=>m.contains b⟩:Vw)=h at *;obtain ⟨fvs,hrs,hsrc⟩:=hf;have hfl:=zK hsrc.len;have hvl:=hsrc.len;obtain ⟨A,cap,rfl,hc1,hc2,-⟩:=hrs.form;rw [hfl] at hc1 hrs ⊢;have hro:=rawAt_ok hok n;have hcon:=constant_any kind (aJ l n);have hnl:=namesOf_len fs kind;have hpi:=yJ (aJ l n).k 4;have hpb:=yJ (aJ l n).b (nW fs kind).length;generalize hL:fs.length=len at *;refine pQ Tryz.func88 λhbx hbad Q hQ=>?_;refine go1 8 [.own] [] ?_;intro b1;refine lQ 1 (λH sH=>lV g l sl n _ (hr.sees sH) hn hlen) ?_; rintro _ _ W2 S3 ⟨rfl,rfl⟩;refine go1 18 [.own,.b 0 0] [] ?_;intro b4;refine cV 9 1 ?_;refine yQ [0,1,0,1,1,1] [.block 0,.seq [1,1,1,1]] (λ(k:Nat) X=>∃ (W5:Vw) (v:Value),X W5 [(1,Vi kind),(6,Vp b1),(7,Vp b4),(13,.slice A len cap),(14,Vi (len:Int)),(15,Vi (k:Int)),(8,v)] [.row v 9 1 (yY (nW (fs.take k) kind)),.box b4 [Vi ((aJ l n).k),Vi ((aJ l n).a),Vi ((aJ l n).b),.string ((aJ l n).t)],.box b1 [Vi 0,Vi 0,Vi 0,Ve,Ve,Vz],.box g [sl,Vi ((bJ l n:Nat):Int)]] [] /\ Sees W2 W5 /\ (k <= len)) (λk=>len - k) (0) (λX q=>⟨W2,(Vz),q _ _ _ _ ⟨rfl,by kernel_rfl⟩,Sees.refl _,Mj _⟩) ?_;rintro k a w ⟨W5,v,hJ,S6,hk⟩; refine dV hJ ?_; clear hJ a w;refine go0 6 [] [] ?_;rcases (by omega:k < len\/len=k) with hlt | hke
 ·obtain ⟨f,hfk⟩:∃ f,fs[k]?=some f:=⟨_,Gj (by omega)⟩;obtain ⟨u,huk⟩:∃ u,fvs[k]?=some u:=⟨_,Gj (by omega)⟩;have hrow:(xK fs fvs)[k]?=some _:=yK hfk huk;obtain ⟨Au,nu,cu,rfl⟩:=(AllArgs.get hsrc (by rw [Oj,hfk]; rfl) huk).slice;have hns:=namesOf_succ (kind:=kind) hfk;have hnk:=namesOf_len (fs.take k) kind;rw [Ck] at hnk;refine jV (t:=decide ((k:Int) < (len:Int))) (Jj (by omega)) ?_;refine go0 6 [] [] ?_;obtain ⟨b7,o8,rfl,-,c9⟩:=RS.row hrs (hrow);refine qQ (c9.sees (S3.trans S6)) ?_;refine go1 14 [.ix b7 o8 len cap k,.f 0 0,.own,.b 0 0,.b 0 2] [] ?_ (ho:=(Aj (by first | omega | (simp; omega)) (trivial)));intro b10;rcases Px (f.ty == kind) with hty | hty
  ·rw [hty] at hns;refine jV (t:=f.ty == kind) (hty) ?_;refine oV 5 [.b 0 0,.fix] [] ?_;intro b11 W12 S13;refine goa0 9 [.ap 1 0 (yY (nW (fs.take k) kind)) [[Vt f.name]]] [(28,Vi (IntKind.i64.wrap ((k:Int) + 1)),Vi ((k:Int) + 1))] ?_ (ho:=(Aj (by constructor <;> (simp; omega)) (trivial))) (hc:=(Aj (jJ (by omega) (by omega)) (trivial)));intro v15 W14 S15;refine wQ [(1,Vi kind),(6,Vp b1),(7,Vp b4),(13,.slice (some ⟨b7,o8,none⟩) len cap),(14,Vi (len:Int)),(8,sL v15),(15,Vi ((k:Int) + 1))] [.row (sL v15) 9 1 ((yY (nW (fs.take k) kind))++[[Vt f.name]]),.box b4 [Vi ((aJ l n).k),Vi ((aJ l n).a),Vi ((aJ l n).b),.string ((aJ l n).t)],.box b1 [Vi 0,Vi 0,Vi 0,Ve,Ve,Vz],.box g [sl,Vi ((bJ l n:Nat):Int)]] [] ?_;exact iV (k + 1) (λX q=>⟨W14,sL v15,q _ _ _ _ (mY (by rw [hns]; simp [yY])),(S6.trans (S13.trans S15)),by omega⟩)
  ·skip;rw [hty] at hns
   refine tQ (t:=f.ty == kind) (hty) ?_;refine go0 7 [] [(28,Vi (IntKind.i64.wrap ((k:Int) + 1)),Vi ((k:Int) + 1))] ?_ (hc:=(Aj (jJ (by omega) (by omega)) (trivial)));refine wQ [(1,Vi kind),(6,Vp b1),(7,Vp b4),(13,.slice (some ⟨b7,o8,none⟩) len cap),(14,Vi (len:Int)),(8,v),(15,Vi ((k:Int) + 1))] [.row v 9 1 (yY (nW (fs.take k) kind)),.box b4 [Vi ((aJ l n).k),Vi ((aJ l n).a),Vi ((aJ l n).b),.string ((aJ l n).t)],.box b1 [Vi 0,Vi 0,Vi 0,Ve,Ve,Vz],.box g [sl,Vi ((bJ l n:Nat):Int)]] [] ?_;exact iV (k + 1) (λX q=>⟨W5,v,q _ _ _ _ (mY (by rw [hns]; simp [yY])),S6,by omega⟩)
 ·skip;have htk:fs.take k=fs:=by rw [<- hke, <- hL,Pk]
  rw [htk];refine tQ (t:=decide ((k:Int) < (len:Int))) (Kj (by omega)) ?_;refine go0 2 [] [] ?_;refine xQ ?_;refine go0 6 [] [] ?_;refine uQ 0 (v:=v) (e:=9) (kk:=1) (l:=yY (nW fs kind)) ?_; intro A2 c2 hE_v hc_v hm_v;rw [show (yY (nW fs kind)).length=(nW fs kind).length from by first | omega | (simp; done) | (simp; omega)] at hE_v hc_v;rw [hE_v];refine g_frozen 0 (v:=.slice A2 ((nW fs kind).length) c2) (e:=9) (kk:=1) (l:=yY (nW fs kind)) (λa w hJ=>hJ.j.out1 (v:=.slice A2 ((nW fs kind).length) c2) (e:=9) (k:=1) (l:=yY (nW fs kind)) (g:=g) (cs:=[sl,Vi ((bJ l n:Nat):Int)]) 0 3 (by kernel_rfl) (by kernel_rfl) (by kernel_rfl) rfl) ?_; intro W16 S17 frs;refine go0 3 [] [] ?_;rcases Nat.eq_zero_or_pos (nW fs kind).length with hz | hpos
  ·refine gV 32 (v:=.bool (((nW fs kind).length:Int) == 0)) (v':=.bool true) (Dj Value.bool (Xj.2 (by omega))) ?_;refine go0 18 [.b 0 0,.cl 140 #[Vi kind,.agg #[Vi ((aJ l n).k),Vi ((aJ l n).a),Vi ((aJ l n).b),.string ((aJ l n).t)]] (.agg #[Vi ((gK kind (aJ l n)).op),Vi ((gK kind (aJ l n)).k),Vi ((gK kind (aJ l n)).n),.string ((gK kind (aJ l n)).s),.string ((gK kind (aJ l n)).nm),Vz]),.b 1 0] [] ?_ (ho:=(Aj (λH sH=>hcon _ h1 h3 hro) (trivial)));have e:yV (aJ l n) fs kind=gK kind (aJ l n):=by unfold yV; rw [Wq.1 hz]; rfl
   refine hQ.toB [.agg #[Vi ((gK kind (aJ l n)).op),Vi ((gK kind (aJ l n)).k),Vi ((gK kind (aJ l n)).n),.string ((gK kind (aJ l n)).s),.string ((gK kind (aJ l n)).nm),Vz]] [[sl,Vi ((bJ l n:Nat):Int)]] (λH sH=>?_) (ix:=[1]);exact by rw [e]; exact ⟨_,rfl,rfl,rfl⟩
  ·skip;have hz:((nW fs kind).length == 0)=false:=by rw [Lj]; omega
   obtain ⟨hk0,hk1⟩:=hro.1;obtain ⟨hb0,hb1⟩:=hro.2.2.1;have p0:=sX (aJ l n).b (nW fs kind).length (by omega);have p1:=rX (aJ l n).b (nW fs kind).length (by omega);have hpb':=λh=>hpb h hb0 hb1 (by omega) (by omega);obtain ⟨j,hj⟩:∃ j:Nat,cJ (aJ l n).b (nW fs kind).length=(j:Int):=⟨_,(Int.toNat_of_nonneg p0).symm⟩;rw [hj] at p1;obtain ⟨s,hs⟩:∃ s,(nW fs kind)[j]?=some s:=⟨_,Gj (by omega)⟩;have e:yV (aJ l n) fs kind=if cJ (aJ l n).k 4=0 then gK kind (aJ l n) else refE s:=by unfold yV; rw [hj,Int.toNat_natCast,hs]
   refine gV 32 (v:=.bool (((nW fs kind).length:Int) == 0)) (v':=.bool false) (Dj Value.bool (by rw [Lj]; omega)) ?_;refine go0 7 [.b 0 0,.cl 37 #[Vi ((aJ l n).k),Vi 4] (Vi (cJ (aJ l n).k 4))] [] ?_ (ho:=(Aj (λH sH=>hpi _ hk0 hk1 (by omega) (by omega)) (trivial)))
   by_cases hq:cJ (aJ l n).k 4=0
   ·skip;refine jV (t:=(cJ (aJ l n).k 4) == 0) (Xj.2 hq) ?_
    refine go0 10 [.b 0 0,.cl 140 #[Vi kind,.agg #[Vi ((aJ l n).k),Vi ((aJ l n).a),Vi ((aJ l n).b),.string ((aJ l n).t)]] (.agg #[Vi ((gK kind (aJ l n)).op),Vi ((gK kind (aJ l n)).k),Vi ((gK kind (aJ l n)).n),.string ((gK kind (aJ l n)).s),.string ((gK kind (aJ l n)).nm),Vz]),.b 1 0] [] ?_ (ho:=(Aj (λH sH=>hcon _ h1 h3 hro) (trivial)));refine hQ.toB [.agg #[Vi ((gK kind (aJ l n)).op),Vi ((gK kind (aJ l n)).k),Vi ((gK kind (aJ l n)).n),.string ((gK kind (aJ l n)).s),.string ((gK kind (aJ l n)).nm),Vz]] [[sl,Vi ((bJ l n:Nat):Int)]] (λH sH=>?_) (ix:=[1]);exact by rw [e,Cj hq]; exact ⟨_,rfl,rfl,rfl⟩
   ·skip;rw [hj] at hpb'
    have hsi:(yY (nW fs kind))[j]?=some [Vt s]:=by rw [Oj,hs]; rfl
    refine tQ (t:=(cJ (aJ l n).k 4) == 0) (Lj.2 hq) ?_;refine go0 10 [.b 0 2,.cl 37 #[Vi ((aJ l n).b),Vi ((nW fs kind).length:Int)] (Vi (j:Int))] [] ?_ (ho:=(Aj (λH sH=>hpb' _) (trivial)));obtain ⟨b18,o19,rfl,-,c20⟩:=RS.row frs (hsi);refine qQ (c20.sees (Sees.refl _)) ?_;refine go0 7 [.ix b18 o19 ((nW fs kind).length) c2 j,.f 0 0,.b 1 0] [] ?_ (ho:=(Aj (by first | omega | (simp; omega)) (trivial)));refine hQ.toB [.agg #[Vi 2,Vi 0,Vi 0,Ve,.string s,Vz]] [[sl,Vi ((bJ l n:Nat):Int)]] (λH sH=>?_) (ix:=[1]);exact by rw [e,Bj hq]; exact ⟨_,rfl,rfl,rfl⟩
abbrev rV (l:List Int):List (List Value):=l.map (λk=>[Vi k])
def ExprC (l:List RawD) (fs:List Fd) (d:Nat):Prop :=
 ∀ (g:Nat) (sl:Value) (n:Nat) (kind:Int) (fv:Value) (m:List Nat) (h:Vw),RS h 4 sl (l.map RawD.cs) -> n + bnd d < 100000 -> 1 <= kind -> kind <= 3 -> IsFds ⟨h.w,m⟩ fv fs -> g∈m ->
  C1 Tryz.prog 39 #[.pointer (some ⟨g,0,none⟩),Vi kind,fv,Vi (d:Int)] h g [sl,Vi (n:Int)]
   (λv cs' h'=>∃ u,v=.agg #[Vi ((gJ l fs d kind n).1).op,Vi ((gJ l fs d kind n).1).k,Vi ((gJ l fs d kind n).1).n,.string ((gJ l fs d kind n).1).s,.string ((gJ l fs d kind n).1).nm,sL u] /\ cs'=[sl,Vi (((gJ l fs d kind n).2:Nat):Int)] /\ IsArgs h' (gJ l fs d kind n).1 (sL u))
theorem many_any (l:List RawD) (fs:List Fd) (d:Nat) (hd:d < 1000) (IH:ExprC l fs d) (g:Nat) (sl:Value) (n:Nat) (op:Int) (ks:List Int) (kv fv:Value) (b4 b6 b7:Nat) (m:List Nat) (h:Vw) (hr:RS h 4 sl (l.map RawD.cs)) (hn:n + 3 * bnd d < 100000) (hks:ks.length <= 3)
  (hk1:∀ k∈ks,1 <= k /\ k <= 3) (hkv:RS h 1 kv (rV ks)) (hf:IsFds ⟨h.w,m⟩ fv fs) (hg:g∈m) (f4:Cells h b4 0 [.pointer (some ⟨g,0,none⟩)]) (f6:Cells h b6 0 [fv]) (f7:Cells h b7 0 [Vi ((d + 1:Nat):Int)]) :
  C1 Tryz.prog 89 #[Vi op,kv,.pointer (some ⟨b4,0,none⟩),.pointer (some ⟨b6,0,none⟩),.pointer (some ⟨b7,0,none⟩)] h g [sl,Vi (n:Int)]
   (λv cs' h'=>∃ u,v=.agg #[Vi (opE op (dJ (gJ l fs d) ks n).1).op,Vi (opE op (dJ (gJ l fs d) ks n).1).k,Vi (opE op (dJ (gJ l fs d) ks n).1).n,.string (opE op (dJ (gJ l fs d) ks n).1).s,.string (opE op (dJ (gJ l fs d) ks n).1).nm,sL u] /\ cs'=[sl,Vi (((dJ (gJ l fs d) ks n).2:Nat):Int)] /\ IsArgs h' (opE op (dJ (gJ l fs d) ks n).1) (sL u)):=by
 obtain ⟨A,cap,rfl,hc1,hc2,-⟩:=hkv.form;rw [Ij] at hc1 hkv ⊢;have hm:∀ b∈[g],b∈m:=λb hb=>by simp at hb; rw [hb]; exact hg
 generalize hL:ks.length=len at *;refine pQ Tryz.func89 λhbx hbad Q hQ=>?_;refine qQ (f4.sees (Sees.refl _)) ?_;refine qQ (f6.sees (Sees.refl _)) ?_;refine qQ (f7.sees (Sees.refl _)) ?_;refine cV 47 6 ?_;refine go2 22 [.own,.own,.b 0 0] [] ?_;intro b1 b2;refine yQ [0,1,0,1,1] [.block 0,.seq [1,1,1]] (λ(k:Nat) X=>∃ (W3:Vw) (v:Value) (vs:List Value),X W3 [(2,Vp b4),(3,Vp b6),(4,Vp b7),(7,Vp b1),(8,Vp b2),(13,.slice A len cap),(14,Vi (len:Int)),(15,Vi (k:Int))] [.box b2 [Vi op,Vi 0,Vi 0,Ve,Ve,v],.box b1 [Vi 0,Vi 0,Vi 0,Ve,Ve,Vz],.row v 47 6 (rK (dJ (gJ l fs d) (ks.take k) n).1 vs),.box g [sl,Vi (((dJ (gJ l fs d) (ks.take k) n).2:Nat):Int)]] [(b7,0,[Vi ((d + 1:Nat):Int)]),(b6,0,[fv]),(b4,0,[Vp g])] /\ Sees h W3 /\ (k <= len) /\ (AllArgs W3 (dJ (gJ l fs d) (ks.take k) n).1 vs)) (λk=>len - k) (0) (λX q=>⟨h,(Vz),[],q _ _ _ _ ⟨rfl,by kernel_rfl⟩,Sees.refl _,Mj _,by unfold dJ AllArgs; rfl⟩) ?_;rintro k a w ⟨W3,v,vs,hJ,S4,hk,hvs⟩; refine dV hJ ?_; clear hJ a w;refine go0 6 [] [] ?_;have hle:=manyE_le (genE_le l fs d) (ks.take k) n;rcases (by omega:k < len\/len=k) with hlt | hke
 ·obtain ⟨kk,hkk⟩:∃ x,ks[k]?=some x:=⟨_,Gj (by omega)⟩;have hki:(rV ks)[k]?=some [Vi kk]:=by rw [Oj,hkk]; rfl
  obtain ⟨q1,q2⟩:=hk1 kk (Ej hkk);have hms:=manyE_snoc (gJ l fs d) kk (ks.take k) n;rw [<- cZ ks k kk hkk] at hms;have hlt2:(ks.take k).length * bnd d <= 2 * bnd d:=Rv _ (by rw [Ck]; omega);have hvl:=hvs.len;have hxl:(dJ (gJ l fs d) (ks.take k) n).1.length <= k:=by
   have:∀ (one:Int -> Nat -> Ex × Nat) (l:List Int) (n:Nat),(dJ one l n).1.length=l.length:=by
    intro one l
    induction l with
    | nil=>intro n; rfl
    | cons x l ih=>intro n; show ((dJ one l (one x n).2).1.length + 1)=l.length + 1; rw [ih]
   rw [this,Ck]; omega
  generalize dJ (gJ l fs d) (ks.take k) n=p at *;have hIH:=λH m' hr' hf' hg'=>IH g sl p.2 kk fv m' H hr' (by omega) q1 q2 hf' hg';generalize gJ l fs d kk p.2=q at *;have hrl:=sK hvl;refine jV (t:=decide ((k:Int) < (len:Int))) (Jj (by omega)) ?_;refine go0 6 [] [] ?_;obtain ⟨b5,o6,rfl,-,c7⟩:=RS.row hkv (hki);refine qQ (c7.sees S4) ?_;refine go0 5 [.ix b5 o6 len cap k,.f 0 0] [] ?_ (ho:=(Aj (by first | omega | (simp; omega)) (trivial)));refine fV 12 0 [.pu,.ld 0 5,.lf 3 0,.pu,.lf 2 0,.lf 1 0,.v (λgh=>Vi (d:Int)),.ef (λgh=>.agg #[Vi q.1.op,Vi q.1.k,Vi q.1.n,.string q.1.s,.string q.1.nm,sL (gh 7)]) 3 (λgh=>.box g [sl,Vi ((q.2:Nat):Int)]) (λgh hh=>IsArgs hh q.1 (sL (gh 7))),.f (λgh=>.slice (some ⟨(uJ (gh 8)),0,none⟩) 1 1) (λgh hh=>Cells hh (uJ (gh 8)) 0 [Vi q.1.op,Vi q.1.k,Vi q.1.n,.string q.1.s,.string q.1.nm,sL (gh 7)]),.e (λgh=>sL (gh 9)) 2 (λgh=>.row (sL (gh 9)) 47 6 ((rK (p).1 vs)++[[Vi q.1.op,Vi q.1.k,Vi q.1.n,.string q.1.s,.string q.1.nm,sL (gh 7)]])),.pu,.st 0 5] [(7,false),(8,true),(9,false)] (Aj (λ_ _ _ s c=>c.sees s) (Aj (λ_ _ _ s c=>c.sees s) (trivial))) ?_ ?_
  ·intro R hT hA hmono;refine Aj (aZ hT hA (λgh=>Vi (d:Int)) (λgh=>Vi (IntKind.i64.wrap (((d + 1:Nat):Int) - 1))) (λgh=>dec_wrap d (by omega))) ?_;refine Aj (r_call1 hT hA hmono ⟨λ_ _=>by kernel_rfl,λ_ _=>by kernel_rfl,λ_ _=>by kernel_rfl⟩ 26 (λu=>.agg #[Vi q.1.op,Vi q.1.k,Vi q.1.n,.string q.1.s,.string q.1.nm,sL u]) [2,3,4,6] 7 (by kernel_rfl) (λ_=>by kernel_rfl) 3 (GN R 3) (by kernel_rfl) (by kernel_rfl) (by kernel_rfl) g (λgh=>[sl,Vi (((p).2:Nat):Int)]) (λgh=>[sl,Vi ((q.2:Nat):Int)]) (λ_=>by kernel_rfl) (λ_=>by kernel_rfl) 39 (λgh=>#[Vp g,Vi kk,fv,Vi (d:Int)]) (λ_ _=>by kernel_rfl) (λgh H sH fH lent=>C1.facts (R:=R) (x:=gh) (N':=λgh=>[sl,Vi ((q.2:Nat):Int)]) (i:=7) (n:=0) (F:=(λu=>.agg #[Vi q.1.op,Vi q.1.k,Vi q.1.n,.string q.1.s,.string q.1.nm,sL u])) (N:=λu=>[sl,Vi ((q.2:Nat):Int)]) (G:=λu hh=>IsArgs hh q.1 (sL u)) (f:=λgh hh=>IsArgs hh q.1 (sL (gh 7))) (by obtain ⟨m',hgm,sm⟩:=lent m hm; exact hIH H m' (hr.sees (S4.trans sH)) (hf.sees sm) hgm) (by kernel_rfl) (by kernel_rfl) (λ_=>by kernel_rfl) (λ_ _ r=>r))) ?_;refine Aj (r_fact hT hA hmono ⟨λ_ _=>by kernel_rfl,λ_ _=>by kernel_rfl,λ_ _=>by kernel_rfl⟩ 27 (λg=>Vs g 1 1) [7] 8 (by kernel_rfl) (by kernel_rfl) (λ_=>by kernel_rfl) (λgh=>[Vi q.1.op,Vi q.1.k,Vi q.1.n,.string q.1.s,.string q.1.nm,sL (gh 7)]) 47 (λ_ _=>by kernel_rfl) (λgh zb zH zc zj zq zhq zhe=>own_fact (i:=8) (k:=1) (f:=λgh hh=>Cells hh (uJ (gh 8)) 0 [Vi q.1.op,Vi q.1.k,Vi q.1.n,.string q.1.s,.string q.1.nm,sL (gh 7)]) (by kernel_rfl) (by kernel_rfl) zc zj zq zhq zhe)) ?_;refine Aj (r_append hT hA hmono ⟨λ_ _=>by kernel_rfl,λ_ _=>by kernel_rfl,λ_ _=>by kernel_rfl⟩ (by kernel_rfl) 28 [1,7,8] 9 (by kernel_rfl) (λ_=>by kernel_rfl) 2 (GN R 2) (by kernel_rfl) (by kernel_rfl) (by kernel_rfl) (λgh=>v) 45 47 6 (λgh=>rK (p).1 vs) (λgh=>[[Vi q.1.op,Vi q.1.k,Vi q.1.n,.string q.1.s,.string q.1.nm,sL (gh 7)]]) (λ_=>by kernel_rfl) (λ_=>by kernel_rfl) (λ_ _=>by kernel_rfl) (.tmp 20) (.tmp 27) (by kernel_rfl) (by kernel_rfl) (λgh=>(uJ (gh 8))) 1 1 (λ_=>by kernel_rfl) (λ_=>by kernel_rfl) 1 8 (λgh hh=>Cells hh (uJ (gh 8)) 0 [Vi q.1.op,Vi q.1.k,Vi q.1.n,.string q.1.s,.string q.1.nm,sL (gh 7)]) (by kernel_rfl) (by kernel_rfl) (λ_ _ c=>c) Tryz.underlying45 (zv:=.agg #[Vi 0,Vi 0,Vi 0,Ve,Ve,Vz]) (bytes:=80) (by kernel_rfl) (by kernel_rfl) (λ_=>by kernel_rfl) (λ_=>by constructor <;> (rw [hrl]; omega))) ?_
   trivial
  rintro u26 b9 v28 W10 S11 ⟨f26,f8,-⟩;replace f26:IsArgs W10 q.1 (sL u26):=f26;replace f8:Cells W10 b9 0 [Vi q.1.op,Vi q.1.k,Vi q.1.n,.string q.1.s,.string q.1.nm,sL u26]:=f8;refine qQ f8 ?_;refine go0 6 [] [(30,Vi (IntKind.i64.wrap ((k:Int) + 1)),Vi ((k:Int) + 1))] ?_ (hc:=(Aj (jJ (by omega) (by omega)) (trivial)));refine wQ [(2,Vp b4),(3,Vp b6),(4,Vp b7),(7,Vp b1),(8,Vp b2),(13,.slice (some ⟨b5,o6,none⟩) len cap),(14,Vi (len:Int)),(15,Vi ((k:Int) + 1))] [.box b2 [Vi op,Vi 0,Vi 0,Ve,Ve,sL v28],.box b1 [Vi 0,Vi 0,Vi 0,Ve,Ve,Vz],.row (sL v28) 47 6 ((rK (p).1 vs)++[[Vi q.1.op,Vi q.1.k,Vi q.1.n,.string q.1.s,.string q.1.nm,sL u26]]),.box g [sl,Vi ((q.2:Nat):Int)]] [(b7,0,[Vi ((d + 1:Nat):Int)]),(b6,0,[fv]),(b4,0,[Vp g])] ?_;exact iV (k + 1) (λX q=>⟨W10,sL v28,vs++[sL u26],q _ _ _ _ (mY (by rw [hms,exRows_snoc hvl])),(S4.trans S11),by omega,by rw [hms]; exact AllArgs.snoc f26 (hvs.sees S11)⟩)
 ·skip;have htk:ks.take k=ks:=by rw [<- hke, <- hL,Pk]
  rw [htk] at hvs ⊢;refine uQ 2 (v:=v) (e:=47) (kk:=6) (l:=rK (dJ (gJ l fs d) ks n).1 vs) ?_; intro A2 c2 hE_v hc_v hm_v;rw [hE_v];refine tQ (t:=decide ((k:Int) < (len:Int))) (Kj (by omega)) ?_;refine go0 2 [] [] ?_;refine xQ ?_;refine go0 9 [.b 0 0,.b 1 0] [] ?_;refine wQ [(7,Vp b1)] [.box b2 [Vi op,Vi 0,Vi 0,Ve,Ve,.slice A2 ((rK (dJ (gJ l fs d) ks n).1 vs).length) c2],.box b1 [Vi op,Vi 0,Vi 0,Ve,Ve,.slice A2 ((rK (dJ (gJ l fs d) ks n).1 vs).length) c2],.row (.slice A2 ((rK (dJ (gJ l fs d) ks n).1 vs).length) c2) 47 6 (rK (dJ (gJ l fs d) ks n).1 vs),.box g [sl,Vi (((dJ (gJ l fs d) ks n).2:Nat):Int)]] [(b7,0,[Vi ((d + 1:Nat):Int)]),(b6,0,[fv]),(b4,0,[Vp g])] ?_;refine hQ.toJ [.agg #[Vi op,Vi 0,Vi 0,Ve,Ve,.slice A2 ((rK (dJ (gJ l fs d) ks n).1 vs).length) c2]] [[sl,Vi (((dJ (gJ l fs d) ks n).2:Nat):Int)]] (λa w hJ=>?_) (ix:=[1]);have fr:=hJ.j.rowOut1 (v:=.slice A2 ((rK (dJ (gJ l fs d) ks n).1 vs).length) c2) (e:=47) (k:=6) (l:=rK (dJ (gJ l fs d) ks n).1 vs) (g:=g) (cs:=[sl,Vi (((dJ (gJ l fs d) ks n).2:Nat):Int)]) 2 3 (by kernel_rfl) (by kernel_rfl) (by kernel_rfl) rfl;exact ⟨_,rfl,.slice A2 (rK (dJ (gJ l fs d) ks n).1 vs).length c2,rfl,rfl,IsArgs.mk (x:=opE op (dJ (gJ l fs d) ks n).1) fr (hvs.sees hJ.j.out)⟩
theorem genE_leaf {l:List RawD} {fs:List Fd} {d:Nat} {kind:Int} {n:Nat} (h:cJ (aJ l n).k 3=0):gJ l fs (d + 1) kind n=(yV (aJ l (bJ l n)) fs kind,bJ l (bJ l n)):=by
 show (if _ then _ else _)=_;rw [Cj h]
theorem kV {l:List RawD} {fs:List Fd} {d:Nat} {kind op:Int} {ks:List Int} {n:Nat} (h:cJ (aJ l n).k 3≠0) (hp:pX (aJ l n) kind=(op,ks)):gJ l fs (d + 1) kind n=(opE op (dJ (gJ l fs d) ks (bJ l n)).1,(dJ (gJ l fs d) ks (bJ l n)).2):=by
 show (if _ then _ else _)=_;rw [Bj h,hp]
theorem rs_ints {h:Vw} {b:Nat} (ks:List Int) (hm:ks.length <= maxLen) (c:Cells h b 0 (rV ks).flatten):RS h 1 (.slice (some ⟨b,0,none⟩) ks.length ks.length) (rV ks):=by
 have:=rs_cells (k:=1) (rV ks) (λr hr=>by obtain ⟨x,-,rfl⟩:=Rj.1 hr; rfl) (by simpa using hm) c
 simpa using this
theorem expr_end {h:Vw} {sl:Value} {p q:Ex × Nat} (e:p=q) {u:Value} {v:Value} {cs:List Value} (hv:v=.agg #[Vi q.1.op,Vi q.1.k,Vi q.1.n,.string q.1.s,.string q.1.nm,sL u]) (hc:cs=[sl,Vi ((q.2:Nat):Int)]) (ha:IsArgs h q.1 (sL u)) :
  ∃ cs',[cs]=[cs'] /\ ∃ u,v=.agg #[Vi p.1.op,Vi p.1.k,Vi p.1.n,.string p.1.s,.string p.1.nm,sL u] /\ cs'=[sl,Vi ((p.2:Nat):Int)] /\ IsArgs h p.1 (sL u):=by
 subst e;exact ⟨cs,rfl,u,hv,hc,ha⟩
theorem leaf_args (r:RawD) (fs:List Fd) (kind:Int):(yV r fs kind).args=[]:=by
 unfold yV
 repeat' split
 all_goals rfl
theorem expr_zero (l:List RawD) (fs:List Fd) (hlen:l.length * 40 <= reachBytes) (hok:∀ r∈l,r.ok) (hfs:fs.length <= 100):ExprC l fs 0:=by
 intro g sl n kind fv m h hr hn h1 h3 hf hg;have hm:∀ b∈[g],b∈m:=λb hb=>by simp at hb; rw [hb]; exact hg
 obtain ⟨A,nf,cap,rfl⟩:∃ A nf cap,fv=.slice A nf cap:=by obtain ⟨vs,hrs,-⟩:=hf; obtain ⟨A,c,e,-⟩:=hrs.form; exact ⟨A,_,c,e⟩
 have hat:=tJ l n;have hb:bnd 0=2:=rfl;refine pQ Tryz.func39 λhbx hbad Q hQ=>?_;refine gov3 5 [.fix,.fix,.fix] [] ?_;intro b1 b2 b3 W4 S5;refine go1 6 [.own,.f 2 0] [] ?_;intro b6;refine lQ 1 (λH sH=>lV g l sl n _ (hr.sees (S5.trans sH)) (by omega) hlen) ?_; rintro _ _ W7 S8 ⟨rfl,rfl⟩;refine go1 23 [.own,.b 0 0,.f 0 0,.f 2 0,.f 1 0] [(17,.bool (decide (((0:Nat):Int) <= 0)),.bool true)] ?_ (hc:=(Aj (rfl) (trivial)));intro b9;refine mQ 2 (λa w hJ=>leaf_any g l sl (bJ l n) kind fs _ _ _ (hr.sees (S5.trans (S8.trans hJ.j.sees))) (by omega) hlen hok h1 h3 (hf.sees (hJ.j.lent hm)) hfs (Vj _ hg)) ?_; rintro _ _ W10 S11 ⟨rfl,rfl⟩;refine go0 5 [.b 1 0] [] ?_;refine hQ.toB [.agg #[Vi ((yV (aJ l (bJ l n)) fs kind).op),Vi ((yV (aJ l (bJ l n)) fs kind).k),Vi ((yV (aJ l (bJ l n)) fs kind).n),.string ((yV (aJ l (bJ l n)) fs kind).s),.string ((yV (aJ l (bJ l n)) fs kind).nm),Vz]] [[sl,Vi ((bJ l (bJ l n):Nat):Int)]] (λH sH=>?_) (ix:=[1]);exact expr_end (u:=Vz) (show gJ l fs 0 kind n=_ from rfl) rfl rfl (sJ _ _ (leaf_args _ _ _))
structure GX (l:List RawD) (sl:Value) (g b4 b8 b12:Nat) (fv:Value) (d:Nat) (H:Vw):Prop where
 raw:RS H 4 sl (l.map RawD.cs)
 c4:Cells H b4 0 [.pointer (some ⟨g,0,none⟩)]
 c8:Cells H b8 0 [fv]
 c12:Cells H b12 0 [Vi ((d + 1:Nat):Int)]
theorem GX.sees {l:List RawD} {sl:Value} {g b4 b8 b12:Nat} {fv:Value} {d:Nat} {H H':Vw} (q:GX l sl g b4 b8 b12 fv d H) (s:Sees H H'):GX l sl g b4 b8 b12 fv d H':=⟨q.raw.sees s,q.c4.sees s,q.c8.sees s,q.c12.sees s⟩
set_option maxHeartbeats 4000000 in
theorem expr_succ (l : List RawD) (fs : List Fd) (hlen : l.length * 40 <= reachBytes) (hok : ∀ r ∈ l, r.ok) (hfs : fs.length <= 100) (d : Nat) (hd : d < 1000) (IH : ExprC l fs d) : ExprC l fs (d + 1) := by
  intro g sl n kind fv m h hr hn h1 h3 hf hg;have hm : ∀ b ∈ [g], b ∈ m := λb hb => by simp at hb; rw [hb]; exact hg
  obtain ⟨A, nf, cap, rfl⟩ : ∃ A nf cap, fv = .slice A nf cap := by obtain ⟨vs, hrs, -⟩ := hf; obtain ⟨A, c, e, -⟩ := hrs.form; exact ⟨A, _, c, e⟩
  have hat := tJ l n;have hbd : bnd (d + 1) = 1 + 3 * bnd d := rfl;have hb2 : 2 <= bnd d := by
    cases d with
    | zero => exact Hj _
    | succ d => show 2 <= 1 + 3 * bnd d; have : 1 <= bnd d := by cases d with | zero => decide | succ d => show 1 <= 1 + _; omega
                omega
  obtain ⟨⟨k0, k1⟩, ⟨a0, a1⟩, ⟨rb0, rb1⟩, -⟩ := rawAt_ok hok n;have hd0 : decide (((d + 1 : Nat) : Int) <= 0) = false := Kj (by omega);have many := many_any l fs d hd IH g sl (bJ l n);have hq7 := tX (aJ l n).b 7 (by omega);have hq3 := tX (aJ l n).a 3 (by omega);have pa3 := yJ (aJ l n).a 3;have pb7 := yJ (aJ l n).b 7;refine pQ Tryz.func39 λhbx hbad Q hQ => ?_;refine gov3 5 [.fix, .fix, .fix] [] ?_;intro bf4 bf8 bf12 W1 S2;refine oQ 2 bf4 0 [Vp g] λf4 => ?_;refine oQ 1 bf8 0 [.slice A nf cap] λf8 => ?_;refine oQ 0 bf12 0 [Vi ((d + 1 : Nat) : Int)] λf12 => ?_;refine go1 6 [.own, .f 2 0] [] ?_;intro b3;refine lQ 1 (λH sH => lV g l sl n _ (hr.sees (S2.trans sH)) (by omega) hlen) ?_; rintro _ _ W4 S5 ⟨rfl, rfl⟩;refine go1 17 [.own, .b 0 0, .f 0 0, .b 0 0, .cl 37 #[Vi ((aJ l n).k), Vi 3] (Vi (cJ (aJ l n).k 3))] [(17, .bool (decide (((d + 1 : Nat) : Int) <= 0)), .bool false)] ?_ (ho := (Aj (λH sH => yJ _ 3 _ k0 k1 (by omega) (by omega)) (trivial))) (hc := (Aj (Dj Value.bool hd0) (trivial)));intro b6;have gx : GX l sl g bf4 bf8 bf12 (.slice A nf cap) d W4 := ⟨hr.sees (S2.trans S5), f4.sees S5, f8.sees S5, f12.sees S5⟩;have mn := λ(op : Int) (ks : List Int) (hks : ks.length <= 3) (hk1 : ∀ k ∈ ks, 1 <= k /\ k <= 3) (H : Vw) (b : Nat) (q : GX l sl g bf4 bf8 bf12 (.slice A nf cap) d H) (c : Cells H b 0 (rV ks).flatten) (m' : List Nat) (hg' : g ∈ m') (hF : IsFds ⟨H.w, m'⟩ (.slice A nf cap) fs) => many op ks _ _ _ _ _ m' H q.raw (by omega) hks hk1 (rs_ints ks (by unfold maxLen; omega) c) hF hg' q.c4 q.c8 q.c12;have fin := λ(op : Int) (ks : List Int) (u : Value) (q : gJ l fs (d + 1) kind n = (opE op (dJ (gJ l fs d) ks (bJ l n)).1, (dJ (gJ l fs d) ks (bJ l n)).2)) (h' : Vw) (hu : IsArgs h' (opE op (dJ (gJ l fs d) ks (bJ l n)).1) (sL u)) s hc => hQ.toB (s := s) (h := h') [.agg #[Vi (opE op (dJ (gJ l fs d) ks (bJ l n)).1).op, Vi (opE op (dJ (gJ l fs d) ks (bJ l n)).1).k, Vi (opE op (dJ (gJ l fs d) ks (bJ l n)).1).n, .string (opE op (dJ (gJ l fs d) ks (bJ l n)).1).s, .string (opE op (dJ (gJ l fs d) ks (bJ l n)).1).nm, sL u]] [[sl, Vi (((dJ (gJ l fs d) ks (bJ l n)).2 : Nat) : Int)]] (λH sH => expr_end q rfl rfl (hu.sees sH)) [1] hc
  by_cases q3 : cJ (aJ l n).k 3 = 0
  · refine jV (t := (cJ (aJ l n).k 3) == 0) (Xj.2 q3) ?_
    refine go0 5 [.f 2 0, .f 1 0] [] ?_;refine mQ 2 (λa w hJ => leaf_any g l sl (bJ l n) kind fs _ _ _ (hr.sees (S2.trans (S5.trans hJ.j.sees))) (by omega) hlen hok h1 h3 (hf.sees (hJ.j.lent hm)) hfs (Vj _ hg)) ?_; rintro _ _ W7 S8 ⟨rfl, rfl⟩;refine go0 5 [.b 1 0] [] ?_;refine hQ.toB [.agg #[Vi ((yV (aJ l (bJ l n)) fs kind).op), Vi ((yV (aJ l (bJ l n)) fs kind).k), Vi ((yV (aJ l (bJ l n)) fs kind).n), .string ((yV (aJ l (bJ l n)) fs kind).s), .string ((yV (aJ l (bJ l n)) fs kind).nm), Vz]] [[sl, Vi ((bJ l (bJ l n) : Nat) : Int)]] (λH sH => ?_) (ix := [1]);exact expr_end (u := Vz) (genE_leaf q3) rfl rfl (sJ _ _ (leaf_args _ _ _))
  · skip
    refine tQ (t := (cJ (aJ l n).k 3) == 0) (Lj.2 q3) ?_;refine go0 17 [.b 0 1, .cl 37 #[Vi ((aJ l n).a), Vi 6] (Vi (cJ (aJ l n).a 6))] [] ?_ (ho := (Aj (λH sH => yJ _ 6 _ a0 a1 (by omega) (by omega)) (trivial)));obtain rfl | rfl | rfl : kind = 1 \/ kind = 2 \/ kind = 3 := by omega
    · skip
      by_cases q6 : cJ (aJ l n).a 6 = 0
      · refine jV (t := (cJ (aJ l n).a 6) == 0) (Xj.2 q6) ?_
        refine oV 6 [.fix] [] ?_;intro bfk W9 S10;refine oQ 0 bfk 0 [Vi 2, Vi 1, Vi 1] λfk => ?_;refine mQ 2 (λa w hJ => mn 17 [2, 1, 1] (by decide) (by decide) _ _ (gx.sees (S10.trans hJ.j.sees)) (fk.sees hJ.j.sees) _ (Vj _ hg) (hf.sees (hJ.j.lent hm))) ?_; rintro _ _ W11 S12 ⟨u, rfl, rfl, fu⟩;refine go0 5 [.b 1 0] [] ?_;exact fin 17 [2, 1, 1] _ (kV q3 (by unfold pX; rw [Cj q6])) _ fu _ (by kernel_rfl)
      · skip
        obtain q7 | q7 | q7 | q7 | q7 | q7 | q7 : cJ (aJ l n).b 7 = 0 \/ cJ (aJ l n).b 7 = 1 \/ cJ (aJ l n).b 7 = 2 \/ cJ (aJ l n).b 7 = 3 \/ cJ (aJ l n).b 7 = 4 \/ cJ (aJ l n).b 7 = 5 \/ cJ (aJ l n).b 7 = 6 := by omega
        · skip
          rw [q7] at pb7;refine tQ (t := (cJ (aJ l n).a 6) == 0) (Lj.2 q6) ?_;refine oV 41 [.b 0 2, .cl 37 #[Vi ((aJ l n).b), Vi 7] (Vi 0), .fix] [] ?_ (ho := (Aj (λH sH => pb7 _ rb0 rb1 (by omega) (by omega)) (trivial)));intro bfk W13 S14;refine oQ 0 bfk 0 [Vi 1] λfk => ?_;refine mQ 2 (λa w hJ => mn 3 [1] (by decide) (by decide) _ _ (gx.sees (S14.trans hJ.j.sees)) (fk.sees hJ.j.sees) _ (Vj _ hg) (hf.sees (hJ.j.lent hm))) ?_; rintro _ _ W15 S16 ⟨u, rfl, rfl, fu⟩;refine go0 7 [.b 1 0] [] ?_;exact fin 3 [1] _ (kV q3 (by unfold pX; rw [Bj q6, q7]; rfl)) _ fu _ (by kernel_rfl)
        · skip
          rw [q7] at pb7;refine tQ (t := (cJ (aJ l n).a 6) == 0) (Lj.2 q6) ?_;refine oV 48 [.b 0 2, .cl 37 #[Vi ((aJ l n).b), Vi 7] (Vi 1), .fix] [] ?_ (ho := (Aj (λH sH => pb7 _ rb0 rb1 (by omega) (by omega)) (trivial)));intro bfk W17 S18;refine oQ 0 bfk 0 [Vi 3] λfk => ?_;refine mQ 2 (λa w hJ => mn 18 [3] (by decide) (by decide) _ _ (gx.sees (S18.trans hJ.j.sees)) (fk.sees hJ.j.sees) _ (Vj _ hg) (hf.sees (hJ.j.lent hm))) ?_; rintro _ _ W19 S20 ⟨u, rfl, rfl, fu⟩;refine go0 7 [.b 1 0] [] ?_;exact fin 18 [3] _ (kV q3 (by unfold pX; rw [Bj q6, q7]; rfl)) _ fu _ (by kernel_rfl)
        · skip
          rw [q7] at pb7;refine tQ (t := (cJ (aJ l n).a 6) == 0) (Lj.2 q6) ?_;refine gov2 53 [.b 0 2, .cl 37 #[Vi ((aJ l n).b), Vi 7] (Vi 2), .fix, .pu, .f 0 0, .fix] [] ?_ (ho := (Aj (λH sH => pb7 _ rb0 rb1 (by omega) (by omega)) (trivial)));intro b21 bfk W22 S23;refine oQ 0 bfk 0 [Vi 1, Vi 1] λfk => ?_;refine mQ 2 (λa w hJ => mn 5 [1, 1] (by decide) (by decide) _ _ (gx.sees (S23.trans hJ.j.sees)) (fk.sees hJ.j.sees) _ (Vj _ hg) (hf.sees (hJ.j.lent hm))) ?_; rintro _ _ W24 S25 ⟨u, rfl, rfl, fu⟩;refine go0 7 [.b 1 0] [] ?_;exact fin 5 [1, 1] _ (kV q3 (by unfold pX; rw [Bj q6, q7]; rfl)) _ fu _ (by kernel_rfl)
        · skip
          rw [q7] at pb7;refine tQ (t := (cJ (aJ l n).a 6) == 0) (Lj.2 q6) ?_;refine gov2 53 [.b 0 2, .cl 37 #[Vi ((aJ l n).b), Vi 7] (Vi 3), .fix, .pu, .f 0 1, .fix] [] ?_ (ho := (Aj (λH sH => pb7 _ rb0 rb1 (by omega) (by omega)) (trivial)));intro b26 bfk W27 S28;refine oQ 0 bfk 0 [Vi 1, Vi 1] λfk => ?_;refine mQ 2 (λa w hJ => mn 6 [1, 1] (by decide) (by decide) _ _ (gx.sees (S28.trans hJ.j.sees)) (fk.sees hJ.j.sees) _ (Vj _ hg) (hf.sees (hJ.j.lent hm))) ?_; rintro _ _ W29 S30 ⟨u, rfl, rfl, fu⟩;refine go0 7 [.b 1 0] [] ?_;exact fin 6 [1, 1] _ (kV q3 (by unfold pX; rw [Bj q6, q7]; rfl)) _ fu _ (by kernel_rfl)
        · skip
          rw [q7] at pb7;refine tQ (t := (cJ (aJ l n).a 6) == 0) (Lj.2 q6) ?_;refine gov2 53 [.b 0 2, .cl 37 #[Vi ((aJ l n).b), Vi 7] (Vi 4), .fix, .pu, .f 0 2, .fix] [] ?_ (ho := (Aj (λH sH => pb7 _ rb0 rb1 (by omega) (by omega)) (trivial)));intro b31 bfk W32 S33;refine oQ 0 bfk 0 [Vi 1, Vi 1] λfk => ?_;refine mQ 2 (λa w hJ => mn 7 [1, 1] (by decide) (by decide) _ _ (gx.sees (S33.trans hJ.j.sees)) (fk.sees hJ.j.sees) _ (Vj _ hg) (hf.sees (hJ.j.lent hm))) ?_; rintro _ _ W34 S35 ⟨u, rfl, rfl, fu⟩;refine go0 7 [.b 1 0] [] ?_;exact fin 7 [1, 1] _ (kV q3 (by unfold pX; rw [Bj q6, q7]; rfl)) _ fu _ (by kernel_rfl)
        · skip
          rw [q7] at pb7;refine tQ (t := (cJ (aJ l n).a 6) == 0) (Lj.2 q6) ?_;refine gov2 53 [.b 0 2, .cl 37 #[Vi ((aJ l n).b), Vi 7] (Vi 5), .fix, .pu, .f 0 3, .fix] [] ?_ (ho := (Aj (λH sH => pb7 _ rb0 rb1 (by omega) (by omega)) (trivial)));intro b36 bfk W37 S38;refine oQ 0 bfk 0 [Vi 1, Vi 1] λfk => ?_;refine mQ 2 (λa w hJ => mn 8 [1, 1] (by decide) (by decide) _ _ (gx.sees (S38.trans hJ.j.sees)) (fk.sees hJ.j.sees) _ (Vj _ hg) (hf.sees (hJ.j.lent hm))) ?_; rintro _ _ W39 S40 ⟨u, rfl, rfl, fu⟩;refine go0 7 [.b 1 0] [] ?_;exact fin 8 [1, 1] _ (kV q3 (by unfold pX; rw [Bj q6, q7]; rfl)) _ fu _ (by kernel_rfl)
        · skip
          rw [q7] at pb7;refine tQ (t := (cJ (aJ l n).a 6) == 0) (Lj.2 q6) ?_;refine gov2 53 [.b 0 2, .cl 37 #[Vi ((aJ l n).b), Vi 7] (Vi 6), .fix, .pu, .f 0 4, .fix] [] ?_ (ho := (Aj (λH sH => pb7 _ rb0 rb1 (by omega) (by omega)) (trivial)));intro b41 bfk W42 S43;refine oQ 0 bfk 0 [Vi 1, Vi 1] λfk => ?_;refine mQ 2 (λa w hJ => mn 9 [1, 1] (by decide) (by decide) _ _ (gx.sees (S43.trans hJ.j.sees)) (fk.sees hJ.j.sees) _ (Vj _ hg) (hf.sees (hJ.j.lent hm))) ?_; rintro _ _ W44 S45 ⟨u, rfl, rfl, fu⟩;refine go0 7 [.b 1 0] [] ?_;exact fin 9 [1, 1] _ (kV q3 (by unfold pX; rw [Bj q6, q7]; rfl)) _ fu _ (by kernel_rfl)
    · skip
      by_cases q6 : cJ (aJ l n).a 6 = 0
      · refine jV (t := (cJ (aJ l n).a 6) == 0) (Xj.2 q6) ?_
        refine oV 6 [.fix] [] ?_;intro bfk W46 S47;refine oQ 0 bfk 0 [Vi 2, Vi 2, Vi 2] λfk => ?_;refine mQ 2 (λa w hJ => mn 17 [2, 2, 2] (by decide) (by decide) _ _ (gx.sees (S47.trans hJ.j.sees)) (fk.sees hJ.j.sees) _ (Vj _ hg) (hf.sees (hJ.j.lent hm))) ?_; rintro _ _ W48 S49 ⟨u, rfl, rfl, fu⟩;refine go0 5 [.b 1 0] [] ?_;exact fin 17 [2, 2, 2] _ (kV q3 (by unfold pX; rw [Cj q6])) _ fu _ (by kernel_rfl)
      · skip
        obtain q7 | q7 | q7 | q7 | q7 | q7 | q7 : cJ (aJ l n).b 7 = 0 \/ cJ (aJ l n).b 7 = 1 \/ cJ (aJ l n).b 7 = 2 \/ cJ (aJ l n).b 7 = 3 \/ cJ (aJ l n).b 7 = 4 \/ cJ (aJ l n).b 7 = 5 \/ cJ (aJ l n).b 7 = 6 := by omega
        · skip
          rw [q7] at pb7;refine tQ (t := (cJ (aJ l n).a 6) == 0) (Lj.2 q6) ?_;refine oV 44 [.b 0 2, .cl 37 #[Vi ((aJ l n).b), Vi 7] (Vi 0), .fix] [] ?_ (ho := (Aj (λH sH => pb7 _ rb0 rb1 (by omega) (by omega)) (trivial)));intro bfk W50 S51;refine oQ 0 bfk 0 [Vi 2] λfk => ?_;refine mQ 2 (λa w hJ => mn 4 [2] (by decide) (by decide) _ _ (gx.sees (S51.trans hJ.j.sees)) (fk.sees hJ.j.sees) _ (Vj _ hg) (hf.sees (hJ.j.lent hm))) ?_; rintro _ _ W52 S53 ⟨u, rfl, rfl, fu⟩;refine go0 7 [.b 1 0] [] ?_;exact fin 4 [2] _ (kV q3 (by unfold pX; rw [Bj q6, q7]; rfl)) _ fu _ (by kernel_rfl)
        · skip
          rw [q7] at pb7;refine tQ (t := (cJ (aJ l n).a 6) == 0) (Lj.2 q6) ?_;refine oV 55 [.b 0 2, .cl 37 #[Vi ((aJ l n).b), Vi 7] (Vi 1), .fix] [] ?_ (ho := (Aj (λH sH => pb7 _ rb0 rb1 (by omega) (by omega)) (trivial)));intro bfk W54 S55;refine oQ 0 bfk 0 [Vi 2, Vi 2] λfk => ?_;refine mQ 2 (λa w hJ => mn 15 [2, 2] (by decide) (by decide) _ _ (gx.sees (S55.trans hJ.j.sees)) (fk.sees hJ.j.sees) _ (Vj _ hg) (hf.sees (hJ.j.lent hm))) ?_; rintro _ _ W56 S57 ⟨u, rfl, rfl, fu⟩;refine go0 7 [.b 1 0] [] ?_;exact fin 15 [2, 2] _ (kV q3 (by unfold pX; rw [Bj q6, q7]; rfl)) _ fu _ (by kernel_rfl)
        · skip
          rw [q7] at pb7;refine tQ (t := (cJ (aJ l n).a 6) == 0) (Lj.2 q6) ?_;refine oV 55 [.b 0 2, .cl 37 #[Vi ((aJ l n).b), Vi 7] (Vi 2), .fix] [] ?_ (ho := (Aj (λH sH => pb7 _ rb0 rb1 (by omega) (by omega)) (trivial)));intro bfk W58 S59;refine oQ 0 bfk 0 [Vi 2, Vi 2] λfk => ?_;refine mQ 2 (λa w hJ => mn 16 [2, 2] (by decide) (by decide) _ _ (gx.sees (S59.trans hJ.j.sees)) (fk.sees hJ.j.sees) _ (Vj _ hg) (hf.sees (hJ.j.lent hm))) ?_; rintro _ _ W60 S61 ⟨u, rfl, rfl, fu⟩;refine go0 7 [.b 1 0] [] ?_;exact fin 16 [2, 2] _ (kV q3 (by unfold pX; rw [Bj q6, q7]; rfl)) _ fu _ (by kernel_rfl)
        · skip
          rw [q7] at pb7;obtain q4 | q4 | q4 : cJ (aJ l n).a 3 = 0 \/ cJ (aJ l n).a 3 = 1 \/ cJ (aJ l n).a 3 = 2 := by omega
          · skip
            rw [q4] at pa3;refine tQ (t := (cJ (aJ l n).a 6) == 0) (Lj.2 q6) ?_;refine oV 66 [.b 0 2, .cl 37 #[Vi ((aJ l n).b), Vi 7] (Vi 3), .b 0 1, .cl 37 #[Vi ((aJ l n).a), Vi 3] (Vi 0), .fix] [] ?_ (ho := (Aj (λH sH => pb7 _ rb0 rb1 (by omega) (by omega)) (Aj (λH sH => pa3 _ a0 a1 (by omega) (by omega)) (trivial))));intro bfk W62 S63;refine oQ 0 bfk 0 [Vi 1, Vi 1] λfk => ?_;refine mQ 2 (λa w hJ => mn 11 [1, 1] (by decide) (by decide) _ _ (gx.sees (S63.trans hJ.j.sees)) (fk.sees hJ.j.sees) _ (Vj _ hg) (hf.sees (hJ.j.lent hm))) ?_; rintro _ _ W64 S65 ⟨u, rfl, rfl, fu⟩;refine go0 7 [.b 1 0] [] ?_;exact fin 11 [1, 1] _ (kV q3 (by unfold pX; rw [Bj q6, q7, q4]; rfl)) _ fu _ (by kernel_rfl)
          · skip
            rw [q4] at pa3;refine tQ (t := (cJ (aJ l n).a 6) == 0) (Lj.2 q6) ?_;refine oV 66 [.b 0 2, .cl 37 #[Vi ((aJ l n).b), Vi 7] (Vi 3), .b 0 1, .cl 37 #[Vi ((aJ l n).a), Vi 3] (Vi 1), .fix] [] ?_ (ho := (Aj (λH sH => pb7 _ rb0 rb1 (by omega) (by omega)) (Aj (λH sH => pa3 _ a0 a1 (by omega) (by omega)) (trivial))));intro bfk W66 S67;refine oQ 0 bfk 0 [Vi 2, Vi 2] λfk => ?_;refine mQ 2 (λa w hJ => mn 11 [2, 2] (by decide) (by decide) _ _ (gx.sees (S67.trans hJ.j.sees)) (fk.sees hJ.j.sees) _ (Vj _ hg) (hf.sees (hJ.j.lent hm))) ?_; rintro _ _ W68 S69 ⟨u, rfl, rfl, fu⟩;refine go0 7 [.b 1 0] [] ?_;exact fin 11 [2, 2] _ (kV q3 (by unfold pX; rw [Bj q6, q7, q4]; rfl)) _ fu _ (by kernel_rfl)
          · skip
            rw [q4] at pa3;refine tQ (t := (cJ (aJ l n).a 6) == 0) (Lj.2 q6) ?_;refine oV 66 [.b 0 2, .cl 37 #[Vi ((aJ l n).b), Vi 7] (Vi 3), .b 0 1, .cl 37 #[Vi ((aJ l n).a), Vi 3] (Vi 2), .fix] [] ?_ (ho := (Aj (λH sH => pb7 _ rb0 rb1 (by omega) (by omega)) (Aj (λH sH => pa3 _ a0 a1 (by omega) (by omega)) (trivial))));intro bfk W70 S71;refine oQ 0 bfk 0 [Vi 3, Vi 3] λfk => ?_;refine mQ 2 (λa w hJ => mn 11 [3, 3] (by decide) (by decide) _ _ (gx.sees (S71.trans hJ.j.sees)) (fk.sees hJ.j.sees) _ (Vj _ hg) (hf.sees (hJ.j.lent hm))) ?_; rintro _ _ W72 S73 ⟨u, rfl, rfl, fu⟩;refine go0 7 [.b 1 0] [] ?_;exact fin 11 [3, 3] _ (kV q3 (by unfold pX; rw [Bj q6, q7, q4]; rfl)) _ fu _ (by kernel_rfl)
        · skip
          rw [q7] at pb7;obtain q4 | q4 | q4 : cJ (aJ l n).a 3 = 0 \/ cJ (aJ l n).a 3 = 1 \/ cJ (aJ l n).a 3 = 2 := by omega
          · skip
            rw [q4] at pa3;refine tQ (t := (cJ (aJ l n).a 6) == 0) (Lj.2 q6) ?_;refine oV 66 [.b 0 2, .cl 37 #[Vi ((aJ l n).b), Vi 7] (Vi 4), .b 0 1, .cl 37 #[Vi ((aJ l n).a), Vi 3] (Vi 0), .fix] [] ?_ (ho := (Aj (λH sH => pb7 _ rb0 rb1 (by omega) (by omega)) (Aj (λH sH => pa3 _ a0 a1 (by omega) (by omega)) (trivial))));intro bfk W74 S75;refine oQ 0 bfk 0 [Vi 1, Vi 1] λfk => ?_;refine mQ 2 (λa w hJ => mn 12 [1, 1] (by decide) (by decide) _ _ (gx.sees (S75.trans hJ.j.sees)) (fk.sees hJ.j.sees) _ (Vj _ hg) (hf.sees (hJ.j.lent hm))) ?_; rintro _ _ W76 S77 ⟨u, rfl, rfl, fu⟩;refine go0 7 [.b 1 0] [] ?_;exact fin 12 [1, 1] _ (kV q3 (by unfold pX; rw [Bj q6, q7, q4]; rfl)) _ fu _ (by kernel_rfl)
          · skip
            rw [q4] at pa3;refine tQ (t := (cJ (aJ l n).a 6) == 0) (Lj.2 q6) ?_;refine oV 66 [.b 0 2, .cl 37 #[Vi ((aJ l n).b), Vi 7] (Vi 4), .b 0 1, .cl 37 #[Vi ((aJ l n).a), Vi 3] (Vi 1), .fix] [] ?_ (ho := (Aj (λH sH => pb7 _ rb0 rb1 (by omega) (by omega)) (Aj (λH sH => pa3 _ a0 a1 (by omega) (by omega)) (trivial))));intro bfk W78 S79;refine oQ 0 bfk 0 [Vi 2, Vi 2] λfk => ?_;refine mQ 2 (λa w hJ => mn 12 [2, 2] (by decide) (by decide) _ _ (gx.sees (S79.trans hJ.j.sees)) (fk.sees hJ.j.sees) _ (Vj _ hg) (hf.sees (hJ.j.lent hm))) ?_; rintro _ _ W80 S81 ⟨u, rfl, rfl, fu⟩;refine go0 7 [.b 1 0] [] ?_;exact fin 12 [2, 2] _ (kV q3 (by unfold pX; rw [Bj q6, q7, q4]; rfl)) _ fu _ (by kernel_rfl)
          · skip
            rw [q4] at pa3;refine tQ (t := (cJ (aJ l n).a 6) == 0) (Lj.2 q6) ?_;refine oV 66 [.b 0 2, .cl 37 #[Vi ((aJ l n).b), Vi 7] (Vi 4), .b 0 1, .cl 37 #[Vi ((aJ l n).a), Vi 3] (Vi 2), .fix] [] ?_ (ho := (Aj (λH sH => pb7 _ rb0 rb1 (by omega) (by omega)) (Aj (λH sH => pa3 _ a0 a1 (by omega) (by omega)) (trivial))));intro bfk W82 S83;refine oQ 0 bfk 0 [Vi 3, Vi 3] λfk => ?_;refine mQ 2 (λa w hJ => mn 12 [3, 3] (by decide) (by decide) _ _ (gx.sees (S83.trans hJ.j.sees)) (fk.sees hJ.j.sees) _ (Vj _ hg) (hf.sees (hJ.j.lent hm))) ?_; rintro _ _ W84 S85 ⟨u, rfl, rfl, fu⟩;refine go0 7 [.b 1 0] [] ?_;exact fin 12 [3, 3] _ (kV q3 (by unfold pX; rw [Bj q6, q7, q4]; rfl)) _ fu _ (by kernel_rfl)
        · skip
          rw [q7] at pb7;obtain q4 | q4 | q4 : cJ (aJ l n).a 3 = 0 \/ cJ (aJ l n).a 3 = 1 \/ cJ (aJ l n).a 3 = 2 := by omega
          · skip
            rw [q4] at pa3;refine tQ (t := (cJ (aJ l n).a 6) == 0) (Lj.2 q6) ?_;refine oV 66 [.b 0 2, .cl 37 #[Vi ((aJ l n).b), Vi 7] (Vi 5), .b 0 1, .cl 37 #[Vi ((aJ l n).a), Vi 3] (Vi 0), .fix] [] ?_ (ho := (Aj (λH sH => pb7 _ rb0 rb1 (by omega) (by omega)) (Aj (λH sH => pa3 _ a0 a1 (by omega) (by omega)) (trivial))));intro bfk W86 S87;refine oQ 0 bfk 0 [Vi 1, Vi 1] λfk => ?_;refine mQ 2 (λa w hJ => mn 13 [1, 1] (by decide) (by decide) _ _ (gx.sees (S87.trans hJ.j.sees)) (fk.sees hJ.j.sees) _ (Vj _ hg) (hf.sees (hJ.j.lent hm))) ?_; rintro _ _ W88 S89 ⟨u, rfl, rfl, fu⟩;refine go0 7 [.b 1 0] [] ?_;exact fin 13 [1, 1] _ (kV q3 (by unfold pX; rw [Bj q6, q7, q4]; rfl)) _ fu _ (by kernel_rfl)
          · skip
            rw [q4] at pa3;refine tQ (t := (cJ (aJ l n).a 6) == 0) (Lj.2 q6) ?_;refine oV 66 [.b 0 2, .cl 37 #[Vi ((aJ l n).b), Vi 7] (Vi 5), .b 0 1, .cl 37 #[Vi ((aJ l n).a), Vi 3] (Vi 1), .fix] [] ?_ (ho := (Aj (λH sH => pb7 _ rb0 rb1 (by omega) (by omega)) (Aj (λH sH => pa3 _ a0 a1 (by omega) (by omega)) (trivial))));intro bfk W90 S91;refine oQ 0 bfk 0 [Vi 2, Vi 2] λfk => ?_;refine mQ 2 (λa w hJ => mn 13 [2, 2] (by decide) (by decide) _ _ (gx.sees (S91.trans hJ.j.sees)) (fk.sees hJ.j.sees) _ (Vj _ hg) (hf.sees (hJ.j.lent hm))) ?_; rintro _ _ W92 S93 ⟨u, rfl, rfl, fu⟩;refine go0 7 [.b 1 0] [] ?_;exact fin 13 [2, 2] _ (kV q3 (by unfold pX; rw [Bj q6, q7, q4]; rfl)) _ fu _ (by kernel_rfl)
          · skip
            rw [q4] at pa3;refine tQ (t := (cJ (aJ l n).a 6) == 0) (Lj.2 q6) ?_;refine oV 66 [.b 0 2, .cl 37 #[Vi ((aJ l n).b), Vi 7] (Vi 5), .b 0 1, .cl 37 #[Vi ((aJ l n).a), Vi 3] (Vi 2), .fix] [] ?_ (ho := (Aj (λH sH => pb7 _ rb0 rb1 (by omega) (by omega)) (Aj (λH sH => pa3 _ a0 a1 (by omega) (by omega)) (trivial))));intro bfk W94 S95;refine oQ 0 bfk 0 [Vi 3, Vi 3] λfk => ?_;refine mQ 2 (λa w hJ => mn 13 [3, 3] (by decide) (by decide) _ _ (gx.sees (S95.trans hJ.j.sees)) (fk.sees hJ.j.sees) _ (Vj _ hg) (hf.sees (hJ.j.lent hm))) ?_; rintro _ _ W96 S97 ⟨u, rfl, rfl, fu⟩;refine go0 7 [.b 1 0] [] ?_;exact fin 13 [3, 3] _ (kV q3 (by unfold pX; rw [Bj q6, q7, q4]; rfl)) _ fu _ (by kernel_rfl)
        · skip
          rw [q7] at pb7;obtain q4 | q4 | q4 : cJ (aJ l n).a 3 = 0 \/ cJ (aJ l n).a 3 = 1 \/ cJ (aJ l n).a 3 = 2 := by omega
          · skip
            rw [q4] at pa3;refine tQ (t := (cJ (aJ l n).a 6) == 0) (Lj.2 q6) ?_;refine oV 66 [.b 0 2, .cl 37 #[Vi ((aJ l n).b), Vi 7] (Vi 6), .b 0 1, .cl 37 #[Vi ((aJ l n).a), Vi 3] (Vi 0), .fix] [] ?_ (ho := (Aj (λH sH => pb7 _ rb0 rb1 (by omega) (by omega)) (Aj (λH sH => pa3 _ a0 a1 (by omega) (by omega)) (trivial))));intro bfk W98 S99;refine oQ 0 bfk 0 [Vi 1, Vi 1] λfk => ?_;refine mQ 2 (λa w hJ => mn 14 [1, 1] (by decide) (by decide) _ _ (gx.sees (S99.trans hJ.j.sees)) (fk.sees hJ.j.sees) _ (Vj _ hg) (hf.sees (hJ.j.lent hm))) ?_; rintro _ _ W100 S101 ⟨u, rfl, rfl, fu⟩;refine go0 7 [.b 1 0] [] ?_;exact fin 14 [1, 1] _ (kV q3 (by unfold pX; rw [Bj q6, q7, q4]; rfl)) _ fu _ (by kernel_rfl)
          · skip
            rw [q4] at pa3;refine tQ (t := (cJ (aJ l n).a 6) == 0) (Lj.2 q6) ?_;refine oV 66 [.b 0 2, .cl 37 #[Vi ((aJ l n).b), Vi 7] (Vi 6), .b 0 1, .cl 37 #[Vi ((aJ l n).a), Vi 3] (Vi 1), .fix] [] ?_ (ho := (Aj (λH sH => pb7 _ rb0 rb1 (by omega) (by omega)) (Aj (λH sH => pa3 _ a0 a1 (by omega) (by omega)) (trivial))));intro bfk W102 S103;refine oQ 0 bfk 0 [Vi 2, Vi 2] λfk => ?_;refine mQ 2 (λa w hJ => mn 14 [2, 2] (by decide) (by decide) _ _ (gx.sees (S103.trans hJ.j.sees)) (fk.sees hJ.j.sees) _ (Vj _ hg) (hf.sees (hJ.j.lent hm))) ?_; rintro _ _ W104 S105 ⟨u, rfl, rfl, fu⟩;refine go0 7 [.b 1 0] [] ?_;exact fin 14 [2, 2] _ (kV q3 (by unfold pX; rw [Bj q6, q7, q4]; rfl)) _ fu _ (by kernel_rfl)
          · skip
            rw [q4] at pa3;refine tQ (t := (cJ (aJ l n).a 6) == 0) (Lj.2 q6) ?_;refine oV 66 [.b 0 2, .cl 37 #[Vi ((aJ l n).b), Vi 7] (Vi 6), .b 0 1, .cl 37 #[Vi ((aJ l n).a), Vi 3] (Vi 2), .fix] [] ?_ (ho := (Aj (λH sH => pb7 _ rb0 rb1 (by omega) (by omega)) (Aj (λH sH => pa3 _ a0 a1 (by omega) (by omega)) (trivial))));intro bfk W106 S107;refine oQ 0 bfk 0 [Vi 3, Vi 3] λfk => ?_;refine mQ 2 (λa w hJ => mn 14 [3, 3] (by decide) (by decide) _ _ (gx.sees (S107.trans hJ.j.sees)) (fk.sees hJ.j.sees) _ (Vj _ hg) (hf.sees (hJ.j.lent hm))) ?_; rintro _ _ W108 S109 ⟨u, rfl, rfl, fu⟩;refine go0 7 [.b 1 0] [] ?_;exact fin 14 [3, 3] _ (kV q3 (by unfold pX; rw [Bj q6, q7, q4]; rfl)) _ fu _ (by kernel_rfl)
    · skip
      by_cases q6 : cJ (aJ l n).a 6 = 0
      · refine jV (t := (cJ (aJ l n).a 6) == 0) (Xj.2 q6) ?_
        refine oV 6 [.fix] [] ?_;intro bfk W110 S111;refine oQ 0 bfk 0 [Vi 2, Vi 3, Vi 3] λfk => ?_;refine mQ 2 (λa w hJ => mn 17 [2, 3, 3] (by decide) (by decide) _ _ (gx.sees (S111.trans hJ.j.sees)) (fk.sees hJ.j.sees) _ (Vj _ hg) (hf.sees (hJ.j.lent hm))) ?_; rintro _ _ W112 S113 ⟨u, rfl, rfl, fu⟩;refine go0 5 [.b 1 0] [] ?_;exact fin 17 [2, 3, 3] _ (kV q3 (by unfold pX; rw [Cj q6])) _ fu _ (by kernel_rfl)
      · skip
        refine tQ (t := (cJ (aJ l n).a 6) == 0) (Lj.2 q6) ?_;refine oV 30 [.fix] [] ?_;intro bfk W114 S115;refine oQ 0 bfk 0 [Vi 3, Vi 3] λfk => ?_;refine mQ 2 (λa w hJ => mn 10 [3, 3] (by decide) (by decide) _ _ (gx.sees (S115.trans hJ.j.sees)) (fk.sees hJ.j.sees) _ (Vj _ hg) (hf.sees (hJ.j.lent hm))) ?_; rintro _ _ W116 S117 ⟨u, rfl, rfl, fu⟩;refine go0 4 [.b 1 0] [] ?_;exact fin 10 [3, 3] _ (kV q3 (by unfold pX; rw [Bj q6]; rfl)) _ fu _ (by kernel_rfl)
theorem exprC_all (l:List RawD) (fs:List Fd) (hlen:l.length * 40 <= reachBytes) (hok:∀ r∈l,r.ok) (hfs:fs.length <= 100):∀ d,d < 1000 -> ExprC l fs d
 | 0,_=>expr_zero l fs hlen hok hfs
 | d + 1,hd=>expr_succ l fs hlen hok hfs d (by omega) (exprC_all l fs hlen hok hfs d (by omega))
def cntE:Nat -> Nat
 | 0=>1
 | d + 1=>1 + 3 * cntE d
theorem cntE_pos (d:Nat):1 <= cntE d:=by cases d <;> simp [cntE]
theorem wf_leaf {x:Ex} (h:TopOk x) (ha:x.args=[]):WfE x /\ szE x=(1,1):=by
 refine ⟨WfE.mk' h (by rw [ha]; exact WfL.all (λx hx=>by cases hx)),?_⟩;rw [zY,ha]; rfl
theorem constE_ok (kind:Int) (r:RawD) (h1:1 <= kind) (h3:kind <= 3):TopOk (gK kind r):=by
 left
 have hk:=val_known kind r.k r.a r.t h1 h3;refine ⟨rfl,?_,λhk1=>?_,rfl,rfl⟩
 ·show pJ kind (if kind=1 then absI (valN kind r.k r.a) else valN kind r.k r.a) (valS kind r.t)
  by_cases g:kind=1
  ·rw [Cj g];subst g;unfold pJ at hk ⊢;have hl:=val_lim 1 r (by omega) (by omega);simp only [absI];rcases hk with hk | hk | hk
   ·have hs:=hk.2.2;refine .inl ⟨by first | rfl | trivial,?_,hs⟩;unfold Lim
    split <;> omega
   ·omega
   ·omega
  ·rw [Bj g]; exact hk
 ·have g:kind=1:=hk1;show 0 <= (if kind=1 then absI (valN kind r.k r.a) else valN kind r.k r.a);rw [Cj g]; unfold absI; split <;> omega
theorem refE_ok {s:ByteArray} (h:qJ s.data.toList):TopOk (refE s):=.inr (.inl ⟨rfl,h,rfl,rfl,rfl,rfl⟩)
theorem leafE_ok (r:RawD) (fs:List Fd) (kind:Int) (h1:1 <= kind) (h3:kind <= 3) (hn:∀ f∈fs,qJ f.name.data.toList):TopOk (yV r fs kind):=by
 unfold yV
 split
 ·rename_i s hs
  split
  ·exact constE_ok kind r h1 h3
  ·have:=Ej hs
   obtain ⟨f,hf,rfl⟩:=Rj.1 this;exact refE_ok (hn f (Jq.1 hf).1)
 ·exact constE_ok kind r h1 h3
theorem pickE_ok (r:RawD) (kind:Int) (h1:1 <= kind) (h3:kind <= 3):3 <= (pX r kind).1 /\ (pX r kind).1 <= 18 /\ (pX r kind).2.length=arity (pX r kind).1 /\ ∀ k∈(pX r kind).2,1 <= k /\ k <= 3:=by
 have a0:=sX r.a 6 (by omega);have b0:=sX r.b 7 (by omega);have b1:=rX r.b 7 (by omega);have c0:=sX r.a 3 (by omega);have c1:=rX r.a 3 (by omega);have hm:∀ n:Int,0 <= n -> n < 7 -> n≠0 -> n≠1 -> 5 <= intOps n /\ intOps n <= 9:=λn _ _ _ _=>by
  unfold intOps; repeat' split
  all_goals omega
 have har:∀ op:Int,5 <= op -> op <= 16 -> arity op=2:=λop _ _=>by
  unfold arity;rw [Bj (by omega),Bj (by omega),Bj (by omega)]
 unfold pX
 split
 ·refine ⟨by omega,by omega,rfl,λk hk=>?_⟩;simp at hk; omega
 ·split
  ·split
   ·exact ⟨by simp,by simp,rfl,λk hk=>by simp at hk; omega⟩
   ·split
    ·exact ⟨by simp,by simp,rfl,λk hk=>by simp at hk; omega⟩
    ·have:=hm (cJ r.b 7) b0 b1 (by assumption) (by assumption)
     refine ⟨by simp only; omega,by simp only; omega,?_,λk hk=>by simp at hk; omega⟩;rw [har _ (by simp only; omega) (by simp only; omega)]; rfl
  ·split
   ·split
    ·exact ⟨by simp,by simp,rfl,λk hk=>by simp at hk; omega⟩
    ·split
     ·refine ⟨by simp only; omega,by simp only; omega,?_,λk hk=>by simp at hk; omega⟩;rw [har _ (by simp only; omega) (by simp only; omega)]; rfl
     ·refine ⟨by simp only; omega,by simp only; omega,?_,λk hk=>by simp at hk; omega⟩;rw [har _ (by simp only; omega) (by simp only; omega)]; rfl
   ·exact ⟨by simp,by simp,rfl,λk hk=>by simp at hk; omega⟩
theorem szL_le {m d:Nat}:∀ {l:List Ex},(∀ x∈l,(szE x).1 <= m /\ (szE x).2 <= d) -> (szL l).1 <= l.length * m /\ (szL l).2 <= d
 | [],_=>by simp [szL]
 | x :: l,h=>by
  have h1:=h x (by simp);have h2:=szL_le (l:=l) (λy hy=>h y (by simp [hy]));rw [szL,Sk,Uq];exact ⟨by simp only; omega,by simp only; exact Nat.max_le.2 ⟨h1.2,h2.2⟩⟩
theorem manyE_all {one:Int -> Nat -> Ex × Nat} {p:Ex -> Prop}:∀ (ks:List Int) (n:Nat),(∀ k∈ks,∀ n,p (one k n).1) -> (dJ one ks n).1.length=ks.length /\ ∀ x∈(dJ one ks n).1,p x
 | [],n,_=>⟨rfl,λx hx=>by cases hx⟩
 | k :: ks,n,h=>by
  have:=manyE_all ks (one k n).2 (λk' hk=>h k' (by simp [hk]))
  refine ⟨by show ((dJ one ks (one k n).2).1.length + 1)=_; rw [this.1]; rfl,λx hx=>?_⟩;rcases Tj.1 hx with rfl | hx
  ·exact h k (by simp) n
  ·exact this.2 x hx
theorem genE_ok (l:List RawD) (fs:List Fd) (hn:∀ f∈fs,qJ f.name.data.toList):∀ (d:Nat) (kind:Int) (n:Nat),1 <= kind -> kind <= 3 -> WfE (gJ l fs d kind n).1 /\ (szE (gJ l fs d kind n).1).1 <= cntE d /\ (szE (gJ l fs d kind n).1).2 <= d + 1
 | 0,kind,n,h1,h3=>by
  have:=wf_leaf (leafE_ok (aJ l (bJ l n)) fs kind h1 h3 hn) (leaf_args _ _ _)
  show WfE (yV _ _ _) /\ (szE (yV _ _ _)).1 <= 1 /\ (szE (yV _ _ _)).2 <= 1;rw [this.2]; exact ⟨this.1,Hj _,Hj _⟩
 | d + 1,kind,n,h1,h3=>by
  have hc:=cntE_pos d
  by_cases g:cJ (aJ l n).k 3=0
  ·rw [genE_leaf g]
   have:=wf_leaf (leafE_ok (aJ l (bJ l n)) fs kind h1 h3 hn) (leaf_args _ _ _)
   simp only [cntE];rw [this.2]; exact ⟨this.1,by simp only; omega,by simp only; omega⟩
  ·obtain ⟨p1,p2,p3,p4⟩:=pickE_ok (aJ l n) kind h1 h3;have hl:=pickE_len (aJ l n) kind;obtain ⟨op,ks,hp⟩:∃ op ks,pX (aJ l n) kind=(op,ks):=⟨(pX (aJ l n) kind).1,(pX (aJ l n) kind).2,by cases pX (aJ l n) kind; rfl⟩;rw [kV g hp];rw [hp] at p1 p2 p3 p4 hl;simp only at p1 p2 p3 p4 hl;obtain ⟨m1,m2⟩:=manyE_all (one:=gJ l fs d) (p:=λx=>WfE x /\ (szE x).1 <= cntE d /\ (szE x).2 <= d + 1) ks (bJ l n) (λk hk n=>genE_ok l fs hn d k n (p4 k hk).1 (p4 k hk).2);have hs:=szL_le (m:=cntE d) (d:=d + 1) (λx hx=>(m2 x hx).2);rw [m1] at hs;have hmul:=Rv (cntE d) hl;generalize dJ (gJ l fs d) ks (bJ l n)=q at *;have e:szE (opE op q.1)=(1 + (szL q.1).1,1 + (szL q.1).2):=zY _;show WfE (opE op q.1) /\ (szE (opE op q.1)).1 <= cntE (d + 1) /\ (szE (opE op q.1)).2 <= d + 1 + 1;rw [e];refine ⟨WfE.mk' (.inr (.inr ⟨p1,p2,rfl,rfl,rfl,rfl,m1.trans p3⟩)) (WfL.all (λx hx=>(m2 x hx).1)),?_,?_⟩
   ·simp only [cntE]; omega
   ·simp only; omega
set_option linter.unusedSimpArgs false
def fnames:List ByteArray:=[⟨#[97]⟩,⟨#[98]⟩,⟨#[99]⟩,⟨#[100,97,121]⟩,⟨#[101,49]⟩,⟨#[102,101,101]⟩,⟨#[103,111,110,101]⟩,⟨#[104,111,109,101]⟩,⟨#[105,116,101,109]⟩,⟨#[106,111,98]⟩]
def fname (i:Nat):ByteArray:=fnames.getD i ⟨#[]⟩
structure Pg where
 name:ByteArray
 fields:List ByteArray
 skip:Ex
structure Fm where
 fields:List Fd
 pages:List Pg
@[reducible] def pgRow (p:Pg) (u v:Value):List Value:=[Vt p.name,u,Vi p.skip.op,Vi p.skip.k,Vi p.skip.n,.string p.skip.s,.string p.skip.nm,v]
def mX:List Pg -> List Value -> List Value -> List (List Value)
 | p :: l,u :: us,v :: vs=>pgRow p u v :: mX l us vs
 | _,_,_=>[]
def AllStr (h:Vw):List (List ByteArray) -> List Value -> Prop
 | [],us=>us=[]
 | x :: l,us=>∃ u r,us=u :: r /\ RS h 1 u (yY x) /\ AllStr h l r
theorem AllStr.sees {h h':Vw} (s:Sees h h'):∀ {l:List (List ByteArray)} {us:List Value},AllStr h l us -> AllStr h' l us
 | [],_,k=>k
 | x :: l,_,⟨u,r,e,k1,k2⟩=>⟨u,r,e,k1.sees s,AllStr.sees s k2⟩
theorem AllStr.len {h:Vw}:∀ {l:List (List ByteArray)} {us:List Value},AllStr h l us -> us.length=l.length
 | [],_,k=>by cases k; rfl
 | x :: l,_,⟨u,r,e,k1,k2⟩=>by subst e; simp [AllStr.len k2]
theorem AllStr.snoc {h:Vw} {x:List ByteArray} {u:Value} (k:RS h 1 u (yY x)):∀ {l:List (List ByteArray)} {us:List Value},AllStr h l us -> AllStr h (l++[x]) (us++[u])
 | [],_,e=>by cases e; exact ⟨u,[],rfl,k,rfl⟩
 | y :: l,_,⟨u',r,e,k1,k2⟩=>by subst e; exact ⟨u',r++[u],rfl,k1,AllStr.snoc k k2⟩
theorem pgRows_snoc {p:Pg} {u v:Value}:∀ {l:List Pg} {us vs:List Value},us.length=l.length -> vs.length=l.length -> mX (l++[p]) (us++[u]) (vs++[v])=mX l us vs++[pgRow p u v]
 | [],[],[],_,_=>rfl
 | q :: l,u' :: us,v' :: vs,h1,h2=>by
  show pgRow q u' v' :: mX (l++[p]) (us++[u]) (vs++[v])=_;rw [pgRows_snoc (by simpa using h1) (by simpa using h2)]; rfl
theorem nX:∀ {l:List Pg} {us vs:List Value},us.length=l.length -> vs.length=l.length -> (mX l us vs).length=l.length
 | [],[],[],_,_=>rfl
 | q :: l,u' :: us,v' :: vs,h1,h2=>by
  show (pgRow q u' v' :: mX l us vs).length=_;rw [Sk,nX (by simpa using h1) (by simpa using h2)]; rfl
def IsPgs (h:Vw) (v:Value) (l:List Pg):Prop:=∃ us vs,RS h 8 v (mX l us vs) /\ AllStr h (l.map (·.fields)) us /\ AllArgs h (l.map (·.skip)) vs
theorem IsPgs.sees {h h':Vw} {v:Value} {l:List Pg} (k:IsPgs h v l) (s:Sees h h'):IsPgs h' v l:=by
 obtain ⟨us,vs,h1,h2,h3⟩:=k;exact ⟨us,vs,h1.sees s,h2.sees s,h3.sees s⟩
structure IsForm (h:Vw) (u v:Value) (f:Fm):Prop where
 fields:IsFds h u f.fields
 pages:IsPgs h v f.pages
theorem IsForm.sees {h h':Vw} {u v:Value} {f:Fm} (k:IsForm h u v f) (s:Sees h h'):IsForm h' u v f:=⟨k.fields.sees s,k.pages.sees s⟩
theorem aQ {f:Fd} {v:Value} {l:List Fd} {vs:List Value} (hl:vs.length=l.length):xK (l++[f]) (vs++[v])=xK l vs++[fdRow f v]:=by
 show List.zipWith _ _ _=_;rw [List.zipWith_append hl.symm]; rfl
theorem AllSrc.snoc {h:Vw} {f:Fd} {v:Value} {l:List Fd} {vs:List Value} (k:AllSrc h l vs) (hv:IsArgs h f.src v):AllSrc h (l++[f]) (vs++[v]):=by
 unfold AllSrc at k ⊢;rw [Mk,List.map_singleton];exact AllArgs.snoc hv k
theorem AllSrc.sees {h h':Vw} {l:List Fd} {vs:List Value} (k:AllSrc h l vs) (s:Sees h h'):AllSrc h' l vs:=AllArgs.sees k s
theorem AllSrc.get {h:Vw} {l:List Fd} {vs:List Value} (k:AllSrc h l vs) {i:Nat} {f:Fd} {v:Value} (hf:l[i]?=some f) (hv:vs[i]?=some v):IsArgs h f.src v :=
 AllArgs.get k (x:=f.src) (by rw [Oj,hf]; rfl) hv
def srcE (l:List RawD) (fs:List Fd) (r:RawD) (n:Nat):Ex × Nat :=
 if cJ r.k 3=1 then gJ l fs 2 (1 + cJ r.b 3) n else if cJ r.k 3=2 then gJ l fs 1 (1 + cJ r.a 3) n else (zE,n)
def fJ (l:List RawD):Nat -> List Fd × Nat
 | 0=>([],bJ l 0)
 | k + 1=>((fJ l k).1++[⟨fname k,1 + cJ (aJ l (fJ l k).2).k 3,1 + cJ (aJ l (fJ l k).2).b 3,(srcE l (fJ l k).1 (aJ l (fJ l k).2) (bJ l (fJ l k).2)).1⟩],
   (srcE l (fJ l k).1 (aJ l (fJ l k).2) (bJ l (fJ l k).2)).2)
def iJ (l:List RawD):Nat:=(1 + cJ (aJ l 0).a 10).toNat
def eJ (l:List RawD):Nat:=(1 + cJ (aJ l 0).b 4).toNat
def lX (fs:List Fd) (n i:Nat):List ByteArray:=(fs.zipIdx.filter (λp=>p.2 % (n + 1) == i)).map (·.1.name)
def kX (i:Nat):ByteArray:=⟨#[112,UInt8.ofNat (49 + i)]⟩
def skipE (l:List RawD) (fs:List Fd) (r:RawD) (n:Nat):Ex × Nat:=if cJ r.k 2=0 then gJ l fs 1 2 n else (zE,n)
def mJ (l:List RawD) (fs:List Fd) (n n0:Nat):Nat -> List Pg × Nat
 | 0=>([],n0)
 | k + 1=>((mJ l fs n n0 k).1++[⟨kX k,lX fs n k,(skipE l fs (aJ l (mJ l fs n n0 k).2) (bJ l (mJ l fs n n0 k).2)).1⟩],(skipE l fs (aJ l (mJ l fs n n0 k).2) (bJ l (mJ l fs n n0 k).2)).2)
def formF (l:List RawD):List Fd:=if cJ (aJ l 0).k 2=0 then (fJ l (iJ l)).1.reverse else (fJ l (iJ l)).1
def gQ (l:List RawD):Fm:=⟨formF l,(mJ l (fJ l (iJ l)).1 (eJ l) (fJ l (iJ l)).2 (eJ l)).1⟩
theorem srcE_le (l:List RawD) (fs:List Fd) (r:RawD) (n:Nat):n <= (srcE l fs r n).2 /\ (srcE l fs r n).2 <= n + 22:=by
 unfold srcE
 split
 ·have:=genE_le l fs 2 (1 + cJ r.b 3) n; simp only [bnd] at this; omega
 ·split
  ·have:=genE_le l fs 1 (1 + cJ r.a 3) n; simp only [bnd] at this; omega
  ·simp only; omega
theorem fQ (l:List RawD):∀ k,(fJ l k).1.length=k
 | 0=>rfl
 | k + 1=>by show ((fJ l k).1++[_]).length=_; rw [Bk,fQ l k]; rfl
theorem fldT_le (l:List RawD):∀ k,(fJ l k).2 <= 1 + 23 * k
 | 0=>by have:=tJ l 0; show bJ l 0 <= _; omega
 | k + 1=>by
  have h1:=fldT_le l k;have h2:=tJ l (fJ l k).2;have h3:=srcE_le l (fJ l k).1 (aJ l (fJ l k).2) (bJ l (fJ l k).2);show (srcE l (fJ l k).1 (aJ l (fJ l k).2) (bJ l (fJ l k).2)).2 <= _;omega
theorem skipE_le (l:List RawD) (fs:List Fd) (r:RawD) (n:Nat):n <= (skipE l fs r n).2 /\ (skipE l fs r n).2 <= n + 7:=by
 unfold skipE
 split
 ·have:=genE_le l fs 1 2 n; simp only [bnd] at this; omega
 ·simp only; omega
theorem pgT_len (l:List RawD) (fs:List Fd) (n n0:Nat):∀ k,(mJ l fs n n0 k).1.length=k
 | 0=>rfl
 | k + 1=>by show ((mJ l fs n n0 k).1++[_]).length=_; rw [Bk,pgT_len l fs n n0 k]; rfl
theorem pgT_le (l:List RawD) (fs:List Fd) (n n0:Nat):∀ k,(mJ l fs n n0 k).2 <= n0 + 8 * k
 | 0=>by show n0 <= _; omega
 | k + 1=>by
  have h1:=pgT_le l fs n n0 k;have h2:=tJ l (mJ l fs n n0 k).2;have h3:=skipE_le l fs (aJ l (mJ l fs n n0 k).2) (bJ l (mJ l fs n n0 k).2);show (skipE l fs (aJ l (mJ l fs n n0 k).2) (bJ l (mJ l fs n n0 k).2)).2 <= _;omega
theorem fname_at {k:Nat} (h:k < 10):(yY fnames)[k]?=some [Vt (fname k)]:=by
 match k,h with
 | 0,_=>rfl
 | 1,_=>rfl
 | 2,_=>rfl
 | 3,_=>rfl
 | 4,_=>rfl
 | 5,_=>rfl
 | 6,_=>rfl
 | 7,_=>rfl
 | 8,_=>rfl
 | 9,_=>rfl
theorem lW (l:List RawD):1 <= iJ l /\ iJ l <= 10 /\ (iJ l:Int)=1 + cJ (aJ l 0).a 10:=by
 have h0:=sX (aJ l 0).a 10 (by omega);have h1:=rX (aJ l 0).a 10 (by omega);unfold iJ; omega
theorem nPages_le (l:List RawD):1 <= eJ l /\ eJ l <= 4 /\ (eJ l:Int)=1 + cJ (aJ l 0).b 4:=by
 have h0:=sX (aJ l 0).b 4 (by omega);have h1:=rX (aJ l 0).b 4 (by omega);unfold eJ; omega
theorem pgNames_snoc (fs:List Fd) (n i:Nat) (f:Fd) (k:Nat) (hk:fs.length=k):lX (fs++[f]) n i=if k % (n + 1)=i then lX fs n i++[f.name] else lX fs n i:=by
 unfold lX;rw [List.zipIdx_append,List.filter_append,Mk];simp only [hk,Gq,List.zipIdx_cons,List.zipIdx_nil]
 by_cases h:k % (n + 1)=i
 ·rw [Cj h]; simp [List.filter_cons,h]
 ·rw [Bj h]; simp [List.filter_cons,h]
theorem pgNames_len (fs:List Fd) (n i:Nat):(lX fs n i).length <= fs.length:=by
 unfold lX;rw [Ij];exact Yk (List.length_filter_le _ _) (by simp)
theorem bQ {h:Vw} {v:Value} {fs:List Fd} (hf:IsFds h v fs):∃ vs A cap,v=.slice A fs.length cap /\ fs.length <= cap /\ cap <= maxLen /\ RS h 9 (.slice A fs.length cap) (xK fs vs) /\ AllSrc h fs vs /\ vs.length=fs.length /\ ∀ u∈vs,sL u=u:=by
 obtain ⟨vs,hr,hs⟩:=hf;have hl:=hs.len;have hfl:=zK hl;obtain ⟨A,cap,rfl,h1,h2,-⟩:=hr.form;rw [hfl] at h1 hr ⊢;refine ⟨vs,A,cap,rfl,h1,h2,hr,hs,hl,λu hu=>?_⟩;obtain ⟨i,hi⟩:=Fv.1 hu;have hil:=(Nj.1 hi).1;obtain ⟨f,hf⟩:∃ f,fs[i]?=some f:=⟨_,Gj (by omega)⟩;obtain ⟨Au,nu,cu,rfl⟩:=(AllArgs.get hs (x:=f.src) (by rw [Oj,hf]; rfl) hi).slice
 rfl
def cQ (fs:List Fd) (s:ByteArray):Int:=fidx (λf:Fd=>f.name.toList == s.toList) fs
theorem find1_any (f:Fd) (A:Option Addr) (n c:Nat) (s:ByteArray) (b:Nat) (h:Vw) (hc:Cells h b 0 [Vt s]) :
  C0 Tryz.prog 153 #[.agg #[Vt f.name,Vi f.kind,Vi f.ty,Vi f.src.op,Vi f.src.k,Vi f.src.n,.string f.src.s,.string f.src.nm,.slice A n c],.pointer (some ⟨b,0,none⟩)] h (λr _=>r=.bool (f.name.toList == s.toList)):=by
 refine pQ Tryz.func153 λhbx hbad Q hQ=>?_;refine qQ (hc.sees (Sees.refl _)) ?_;refine go1 16 [.own,.b 0 0,.f 0 0] [] ?_;intro b1;refine hQ.to [.bool (f.name.toList == s.toList)] (λH sH=>?_);exact rfl
theorem idxF_any (fs:List Fd) (vs:List Value) (A:Option Addr) (cap:Nat) (s:ByteArray) (b:Nat) (h:Vw) (hr:RS h 9 (.slice A fs.length cap) (xK fs vs)) (hl:fs.length <= 1000000) (hvl:vs.length=fs.length) (hsl:∀ u∈vs,sL u=u) (hc:Cells h b 0 [Vt s]) :
  C0 Tryz.prog 53 #[.slice A fs.length cap,.func (.func 153) #[] #[.pointer (some ⟨b,0,none⟩)]] h (λr _=>r=Vi (cQ fs s)):=by
 generalize hL:fs.length=len at *;refine pQ Tryz.func53 λhbx hbad Q hQ=>?_;refine go0 14 [] [] ?_;refine yQ [0,1,0,1] [.block 0,.seq [1,1]] (λ(k:Nat) X=>∃ (W1:Vw) ,X W1 [(0,.slice A len cap),(1,.func (.func 153) #[] #[Vp b]),(7,Vi (len:Int)),(8,Vi (k:Int))] [] [] /\ Sees h W1 /\ (k <= len) /\ (∀ y∈fs.take k,(y.name.toList == s.toList)=false)) (λk=>len - k) (0) (λX q=>⟨h,q _ _ _ _ ⟨rfl,by kernel_rfl⟩,Sees.refl _,Mj _,λy hy=>by simp at hy⟩) ?_;rintro k a w ⟨W1,hJ,S2,hk,hn⟩; refine dV hJ ?_; clear hJ a w;refine go0 6 [] [] ?_;rcases (by omega:k < len\/k=len) with hlt | hke
 ·obtain ⟨f,hfk⟩:∃ f,fs[k]?=some f:=⟨_,Gj (by omega)⟩;obtain ⟨u,huk⟩:∃ u,vs[k]?=some u:=⟨_,Gj (by omega)⟩;have hrow:(xK fs vs)[k]?=some (fdRow f (sL u)):=by rw [hsl u (Ej huk)]; exact yK hfk huk
  refine jV (t:=decide ((k:Int) < (len:Int))) (Jj (by omega)) ?_;refine go0 15 [] [] ?_;obtain ⟨b3,o4,rfl,-,c5⟩:=RS.row hr (hrow);refine qQ (c5.sees S2) ?_;refine go0 5 [.ix b3 o4 len cap k,.f 0 0,.cl 153 #[.agg #[Vt f.name,Vi f.kind,Vi f.ty,Vi f.src.op,Vi f.src.k,Vi f.src.n,.string f.src.s,.string f.src.nm,sL u],Vp b] (.bool (f.name.toList == s.toList))] [] ?_ (ho:=(Aj (by first | omega | (simp; omega)) (Aj (λH sH=>find1_any f _ _ _ s b _ (hc.sees (S2.trans sH))) (trivial))))
  cases boolIs (f.name.toList == s.toList) with
  | true hq =>
   refine jV (t:=f.name.toList == s.toList) (hq) ?_;refine go0 9 [] [] ?_;refine xQ ?_;refine go0 2 [] [] ?_;refine hQ.to [Vi (k:Int)] (λH sH=>?_);exact Dj (Value.int .i64) (fidx_found _ fs k f hn hfk hq).symm
  | false hq =>
   refine tQ (t:=f.name.toList == s.toList) (hq) ?_;refine go0 7 [] [(18,Vi (IntKind.i64.wrap ((k:Int) + 1)),Vi ((k:Int) + 1))] ?_ (hc:=(Aj (jJ (by omega) (by omega)) (trivial)));exact iV (k + 1) (λX q=>⟨W1,q _ _ _ _ ⟨rfl,by kernel_rfl⟩,S2,by omega,(by rw [cZ fs k f hfk]; exact λy hy=>(Qj.1 hy).elim (hn y) (λe=>by rw [Pj.1 e]; exact hq))⟩)
 ·skip;have htk:fs.take k=fs:=by rw [hke, <- hL,Pk]
  rw [htk] at hn;refine tQ (t:=decide ((k:Int) < (len:Int))) (Kj (by omega)) ?_;refine go0 2 [] [] ?_;refine xQ ?_;refine go0 8 [] [] ?_;refine hQ.to [Vi (-1)] (λH sH=>?_);exact Dj (Value.int .i64) (fidx_none _ fs hn).symm
def findV (fs:List Fd) (s:ByteArray):Value:=.tuple #[Vi (if cQ fs s < 0 then 0 else cQ fs s),Vi (if cQ fs s < 0 then 5 else 0)]
theorem find_any (fs:List Fd) (v:Value) (s:ByteArray) (h:Vw) (hf:IsFds h v fs) (hl:fs.length <= 1000000):C0 Tryz.prog 96 #[v,.string s] h (λr _=>r=findV fs s):=by
 obtain ⟨vs,A,cap,rfl,-,-,hr,-,hvl,hsl⟩:=bQ hf;have hi:=λH hr' b hc=>idxF_any fs vs A cap s b H hr' hl hvl hsl hc;have e:findV fs s=.tuple #[Vi (if cQ fs s < 0 then 0 else cQ fs s),Vi (if cQ fs s < 0 then 5 else 0)]:=rfl;rw [e];clear e;generalize cQ fs s=p at *;refine pQ Tryz.func96 λhbx hbad Q hQ=>?_;refine oV 11 [.fix] [] ?_;intro bsn W1 S2;refine oQ 0 bsn 0 [Vt s] λsn=>?_;refine go0 11 [.cl 53 #[.slice A fs.length cap,.func (.func 153) #[] #[Vp bsn]] (Vi p)] [] ?_ (ho:=(Aj (λH sH=>hi _ (hr.sees (S2.trans sH)) _ (sn.sees sH)) (trivial)))
 by_cases hp:p < 0
 ·refine jV (t:=decide (p < 0)) (Jj hp) ?_;refine go0 8 [] [] ?_;refine hQ.to [Vi 0,Vi 5] (λH sH=>?_);rw [Cj hp,Cj hp]; rfl
 ·skip;refine tQ (t:=decide (p < 0)) (Kj hp) ?_
  refine go0 10 [] [] ?_;refine hQ.to [Vi p,Vi 0] (λH sH=>?_);rw [Bj hp,Bj hp]; rfl
theorem find_no (fs:List Fd) (v:Value) (s:ByteArray) (h:Vw) (hf:IsFds h v fs) (hl:fs.length <= 1000000) (hp:cQ fs s < 0):C0 Tryz.prog 96 #[v,.string s] h (λr _=>r=.tuple #[Vi 0,Vi 5]):=by
 have:=find_any fs v s h hf hl
 unfold findV at this
 rwa [Cj hp,Cj hp] at this
theorem find_yes (fs:List Fd) (v:Value) (s:ByteArray) (i:Nat) (h:Vw) (hf:IsFds h v fs) (hl:fs.length <= 1000000) (hp:cQ fs s=i):C0 Tryz.prog 96 #[v,.string s] h (λr _=>r=.tuple #[Vi (i:Int),Vi 0]):=by
 have:=find_any fs v s h hf hl
 unfold findV at this
 rwa [hp,Bj (by omega),Bj (by omega)] at this
theorem findF_lt (fs:List Fd) (s:ByteArray):cQ fs s = -1\/∃ i:Nat,∃ f,cQ fs s=i /\ fs[i]?=some f /\ f.name=s:=by
 unfold cQ fidx
 cases e:fs.findIdx? (λf:Fd=>f.name.toList == s.toList) with
 | none=>exact .inl rfl
 | some k =>
  obtain ⟨h1,h2,-⟩:=List.findIdx?_eq_some_iff_getElem.1 e;refine .inr ⟨k,_,rfl,Gj h1,?_⟩;rw [tl_dec] at h2;exact Yq h2
theorem dQ {fs:List Fd} (hd:(fs.map (·.name)).Nodup) {i:Nat} {f:Fd} (hi:fs[i]?=some f):cQ fs f.name=i:=by
 have hil:=(Nj.1 hi).1;refine fidx_found _ fs i f (λy hy=>?_) hi (tl_yes rfl);rw [tl_dec,decide_eq_false_iff_not];intro e;obtain ⟨j,hj⟩:=Fv.1 hy;rw [Gw] at hj
 split at hj
 ·rename_i hji;have h1:(fs.map (·.name))[j]?=some f.name:=by rw [Oj,hj, <- e]; rfl
  have h2:(fs.map (·.name))[i]?=some f.name:=by rw [Oj,hi]; rfl
  have:=((Bx (by rw [Ij]; omega) hd).1 (h1.trans h2.symm))
  omega
 ·cases hj
theorem findF_none {fs:List Fd} {s:ByteArray} (h:∀ f∈fs,f.name≠s):cQ fs s = -1:=fidx_none _ fs λy hy=>tl_no (h y hy)
def plc (fs:List Fd) (s:ByteArray):Nat:=(cQ fs s).toNat
theorem findP_any (fs:List Fd) (v:Value) (s:ByteArray) (h:Vw) (hf:IsFds h v fs) (hl:fs.length <= 1000000):C0 Tryz.prog 96 #[v,.string s] h (λr _=>r=.tuple #[Vi ((plc fs s:Nat):Int),Vi (if cQ fs s < 0 then 5 else 0)]):=by
 unfold plc;rcases findF_lt fs s with e | ⟨i,f,e,-,-⟩
 ·rw [e]; exact find_no fs v s h hf hl (by omega)
 ·rw [e,Bj (by omega)]; exact find_yes fs v s i h hf hl e
theorem c_kn (k n:Int) (s:ByteArray) (h:Vw) (hk:pJ k n s):C0 Tryz.prog 60 #[.agg #[Vi k,Vi n,.string s]] h (λv _=>v=.bool true):=C0.of_gives (λw=>wV k n s w hk) h
def fZ (fs:List Fd) (s:ByteArray) (k:Int):Int:=if cQ fs s < 0 then 5 else match fs[(cQ fs s).toNat]? with
 | some f=>if f.kind=1 then (if k=f.ty then 0 else 9) else 2
 | none=>5
theorem told_any (fs:List Fd) (v:Value) (s:ByteArray) (k n:Int) (t:ByteArray) (h:Vw) (hf:IsFds h v fs) (hl:fs.length <= 1000000) (hk:pJ k n t):C0 Tryz.prog 48 #[v,.string s,.agg #[Vi k,Vi n,.string t]] h (λr _=>r=Vi (fZ fs s k)):=by
 have hkn:=c_kn k n t;obtain ⟨vs,A,cap,rfl,-,-,hr,hsrc,hvl,hsl⟩:=bQ hf;rcases findF_lt fs s with hp | ⟨i,f,hp,hfi,-⟩
 ·have hno:=λH q=>find_no fs (.slice A fs.length cap) s H q hl (by omega);have e:fZ fs s k=5:=by unfold fZ; rw [Cj (by omega)]
  rw [e];refine pQ Tryz.func48 λhbx hbad Q hQ=>?_;refine go1 37 [.own,.cl 96 #[.slice A fs.length cap,.string s] (.tuple #[Vi 0,Vi 5])] [] ?_ (ho:=(Aj (λH sH=>hno _ (hf.sees sH)) (trivial)));intro b1;refine hQ.to [Vi 5] (λH sH=>?_);exact rfl
 ·have hyes:=λH q=>find_yes fs (.slice A fs.length cap) s i H q hl hp;have hil:=(Nj.1 hfi).1;obtain ⟨u,hui⟩:∃ u,vs[i]?=some u:=⟨_,Gj (by omega)⟩;have hrow:(xK fs vs)[i]?=some (fdRow f (sL u)):=by rw [hsl u (Ej hui)]; exact yK hfi hui
  have e:fZ fs s k=if f.kind=1 then (if k=f.ty then 0 else 9) else 2:=by unfold fZ; rw [Bj (by omega),hp,Int.toNat_natCast,hfi]
  rw [e];refine pQ Tryz.func48 λhbx hbad Q hQ=>?_;refine go1 32 [.own,.cl 96 #[.slice A fs.length cap,.string s] (.tuple #[Vi (i:Int),Vi 0])] [] ?_ (ho:=(Aj (λH sH=>hyes _ (hf.sees sH)) (trivial)));intro b1;obtain ⟨b2,o3,rfl,-,c4⟩:=RS.row hr (hrow);refine qQ (c4.sees (Sees.refl _)) ?_;refine go0 7 [.ix b2 o3 fs.length cap i,.f 0 1] [] ?_ (ho:=(Aj (by first | omega | (simp; omega)) (trivial)))
  by_cases h1:f.kind=1
  ·skip;refine tQ (t:=f.kind != 1) ((by rw [Rk]; exact h1)) ?_
   refine go0 1 [] [] ?_;have c5:=RS.cell hr (hrow);refine qQ (c5.sees (Sees.refl _)) ?_;refine fV 14 0 [.ld 0 0,.v (λgh=>.bool true),.pu,.pu,.pu,.ld 0 0,.pu,.pu,.v (λgh=>.pointer (some ⟨b2,o3 + i * 9,none⟩)),.pu,.lf 0 2,.pu,.pu,.pu] [] (trivial) ?_ ?_
   ·intro R hT hA hmono;refine Aj (t_v hT hA hmono (k:=60) (args:=(λgh=>#[.agg #[Vi k,Vi n,.string t]])) (f:=λgh=>.bool true) (λgh H sH fH lent=>hkn _ hk)) ?_;refine Aj (bZ hT hA b2 o3 fs.length cap i (λgh=>.pointer (some ⟨b2,o3 + i * 9,none⟩)) (by first | omega | (simp; omega))) ?_
    trivial
   rintro W6 S7 -;refine go0 1 [] [] ?_
   by_cases h2:k=f.ty
   ·refine tQ (t:=k != f.ty) ((by rw [Rk]; exact h2)) ?_;refine go0 9 [] [] ?_;refine hQ.to [Vi 0] (λH sH=>?_);rw [Cj h1,Cj h2]; rfl
   ·skip;refine jV (t:=k != f.ty) (Hk.2 h2) ?_
    refine go0 8 [] [] ?_;refine hQ.to [Vi 9] (λH sH=>?_);rw [Cj h1,Bj h2]; rfl
  ·skip;refine jV (t:=f.kind != 1) (Hk.2 h1) ?_
   refine go0 8 [] [] ?_;refine hQ.to [Vi 2] (λH sH=>?_);rw [Bj h1]; rfl
end Go.Proofs.YthgcgciceejicaaGreatDoor
