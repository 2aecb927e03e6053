/-
  Rows of the call's own that are turned in place: what is left behind a delete.
-/
import Derived.Lib.AppendZerosOnto
import Derived.Test.YthgcgciceejicaaGreatDoorZT31
set_option maxRecDepth 100000
namespace Go.Proofs.YthgcgciceejicaaGreatDoor
open Go.RowKit
theorem addr_add (b off n:Nat):(⟨b,off,none⟩:Addr).add n=⟨b,off + n,none⟩:=by unfold Addr.add; split <;> simp_all
theorem Evo.setCells {x w:World} (h:Evo x w) {g:Nat} (hg:x.heap.size <= g) (o:Nat) (vs:List Value):Evo x (w.setCells g o vs):=by
 refine ⟨h.below.trans ?_⟩;have hs:∀ (vs:List Value) (o:Nat) (w:World),(w.setCells g o vs).heap.size=w.heap.size:=by
  intro vs
  induction vs with
  | nil=>intro o w; rfl
  | cons v r ih=>intro o w; show ((w.setCell ⟨g,o,none⟩ v).setCells g (o + 1) r).heap.size=_; rw [ih]; simp [World.setCell]
 have ht:∀ (vs:List Value) (o:Nat) (w:World),(w.setCells g o vs).tape=w.tape:=by
  intro vs
  induction vs with
  | nil=>intro o w; rfl
  | cons v r ih=>intro o w; show ((w.setCell ⟨g,o,none⟩ v).setCells g (o + 1) r).tape=_; rw [ih]; rfl
 refine ⟨World.os_setCells _ _ _ _,ht _ _ _,World.output_setCells _ _ _ _,Nat.le_of_eq (hs _ _ _).symm,λk hk=>?_⟩;rcases Iv k w.heap.size with h1 | h1
 ·exact World.heap_setCells_other _ _ _ _ h1 (by omega)
 ·rw [Gx h1,Gx (by rw [hs]; exact h1)]
theorem run_clear_row {P:Program} {w:World} (t e ty:TypeId) (z:Value) (zs:List Value) (ht:P.underlying t=some (.slice e)) (hv:∀ w,(zeroValue e).run P w=.ok z w) (hz:(Builtin.zeroCells z.cells 1).toList=zs) (h1:∀ u∈zs,u.oneCell'=true) (b o c:Nat)
  (hc:∀ j,j < zs.length -> (w.cell? ⟨b,o + j,none⟩).isSome=true) (hf:∀ j,j < zs.length -> w.frozen? ⟨b,o + j,none⟩=false) :
  (Builtin.clear_ #[t] ty #[.slice (some ⟨b,o,none⟩) 1 c]).run P w=.ok (.tuple #[]) (w.setCells b o zs):=by
 have hst:=run_storeCells_cells (P:=P) b o zs 0 w (by simpa using hc) (by simpa using hf) h1;simp only [Pv] at hst;simp [Builtin.clear_,run_underlying ht,hv,hz,hst]
theorem cell_in {w:World} (b o:Nat) (vs:List Value) (h:∀ j,j < vs.length -> (w.cell? ⟨b,o + j,none⟩).isSome=true) (j:Nat) (u:Value) (hj:vs[j]?=some u):(w.setCells b o vs).cell? ⟨b,o + j,none⟩=some u:=by
 obtain ⟨hl,rfl⟩:=Nj.1 hj;exact World.cell?_setCells_in b vs o w h j hl
theorem cell_out {w:World} (b o:Nat) (vs:List Value) (p:Nat) (h:p < o\/o + vs.length <= p):(w.setCells b o vs).cell? ⟨b,p,none⟩=w.cell? ⟨b,p,none⟩ :=
 World.cell?_setCells_out b vs o w ⟨b,p,none⟩ (λ_ _=>h)
theorem del_rows {w:World} {g k i p:Nat} {l:List (List Value)} (hk:Len k l) (hl:l.length=p + 1) (hi:i <= p) (hrow:∀ q r,l[q]?=some r -> ∀ j u,r[j]?=some u -> w.cell? ⟨g,q * k + j,none⟩=some u) (zs:List Value) (hz:zs.length=k) :
  ∀ q r,(l.eraseIdx i)[q]?=some r -> ∀ j u,r[j]?=some u -> ((w.setCells g (i * k) (l.drop (i + 1)).flatten).setCells g (p * k) zs).cell? ⟨g,0 + q * k + j,none⟩=some u:=by
 intro q r hq j u hj;have hrl:r.length=k:=hk r (Hw (Ej hq));have hjk:j < k:=by rw [<- hrl]; exact (Nj.1 hj).1
 have hqp:q < p:=by
  have:=(Nj.1 hq).1
  rw [List.length_eraseIdx] at this
  split at this <;> omega
 have hmul:(q + 1) * k <= p * k:=Rv _ hqp;rw [Uq] at hmul;rw [Gq,cell_out g (p * k) zs _ (.inl (by omega))];have hdl:Len k (l.drop (i + 1)):=λr hr=>hk r (Ww hr);rw [List.getElem?_eraseIdx] at hq
 by_cases hqi:q < i
 ·rw [Cj hqi] at hq;have hm2:(q + 1) * k <= i * k:=Rv _ hqi;rw [Uq] at hm2;rw [cell_out g (i * k) _ _ (.inl (by omega))];exact hrow q r hq j u hj
 ·rw [Bj hqi] at hq;have hf:=flat_get (k:=k) (l.drop (i + 1)) hdl (q - i) r j u (by rw [Wv,show i + 1 + (q - i)=q + 1 by omega]; exact hq) hj
  have:=cell_in (w:=w) g (i * k) (l.drop (i + 1)).flatten (λy hy=>?_) ((q - i) * k + j) u hf
  ·rw [show i * k + ((q - i) * k + j)=q * k + j from by rw [<- Xv, <- Nat.add_mul,show i + (q - i)=q by omega]] at this;exact this
  ·rw [flat_len _ hdl,List.length_drop,hl] at hy;have hy2:i * k + y < (p + 1) * k:=by
    have:i * k + (p + 1 - (i + 1)) * k=p * k:=by rw [<- Nat.add_mul]; congr 1; omega
    rw [Uq]; omega
   have hkp:0 < k:=by omega
   obtain ⟨a,ha⟩:∃ r',l[(i * k + y) / k]?=some r':=⟨_,Gj (by rw [hl]; exact (Nat.div_lt_iff_lt_mul hkp).2 hy2)⟩;have hal:=hk a (Ej ha);obtain ⟨b,hb⟩:∃ u,a[(i * k + y) % k]?=some u:=⟨_,Gj (by rw [hal]; exact Nat.mod_lt _ hkp)⟩
   have:=hrow _ a ha _ b hb
   rw [Nat.div_add_mod' (i * k + y) k] at this;rw [this]; rfl
set_option linter.unusedVariables false
theorem str_row {l:List ByteArray} {i:Nat} {s:ByteArray} (h:l[i]?=some s):(yY l)[i]?=some [Vt s]:=by rw [Oj,h]; rfl
theorem str_len (l:List ByteArray):Len 1 (yY l):=λr hr=>by obtain ⟨x,-,rfl⟩:=Rj.1 hr; rfl
theorem str_one (l:List ByteArray):One (yY l):=λr hr u hu=>by
 obtain ⟨x,-,rfl⟩:=Rj.1 hr;rw [Pj.1 hu]; rfl
theorem idxS_any (l:List ByteArray) (v:Value) (s:ByteArray) (h:Vw) (hr:RS h 1 v (yY l)) (hl:l.length <= 1000000):C0 Tryz.prog 193 #[v,.string s] h (λr _=>r=Vi (fidx (λy:ByteArray=>s.toList == y.toList) l)):=by
 obtain ⟨A,cap,rfl,-,-,-⟩:=hr.form;rw [Ij] at *;generalize hL:l.length=len at *;refine pQ Tryz.func193 λhbx hbad Q hQ=>?_;refine go0 14 [] [] ?_;refine yQ [0,1,0,1] [.block 0,.seq [1,1]] (λ(k:Nat) X=>∃ (W1:Vw) ,X W1 [(0,.slice A len cap),(1,.string s),(7,Vi (len:Int)),(8,Vi (k:Int))] [] [] /\ Sees h W1 /\ (k <= len) /\ (∀ y∈l.take k,(s.toList == y.toList)=false)) (λk=>len - k) (0) (λX q=>⟨h,q _ _ _ _ ⟨rfl,by kernel_rfl⟩,Sees.refl _,Mj _,λy hy=>by simp at hy⟩) ?_;rintro k a w ⟨W1,hJ,S2,hk,hn⟩; refine dV hJ ?_; clear hJ a w;refine go0 6 [] [] ?_;rcases (by omega:k < len\/k=len) with hlt | hke
 ·obtain ⟨f,hfk⟩:∃ f,l[k]?=some f:=⟨_,Gj (by omega)⟩;have hrow:=str_row hfk;refine jV (t:=decide ((k:Int) < (len:Int))) (Jj (by omega)) ?_;refine go0 15 [] [] ?_;obtain ⟨b3,o4,rfl,-,c5⟩:=RS.row hr (hrow);refine qQ (c5.sees S2) ?_;refine go0 5 [.ix b3 o4 len cap k,.f 0 0] [] ?_ (ho:=(Aj (by first | omega | (simp; omega)) (trivial)));rcases Px (s.toList == f.toList) with hq | hq
  ·refine jV (t:=s.toList == f.toList) (hq) ?_;refine go0 9 [] [] ?_;refine xQ ?_;refine go0 2 [] [] ?_;refine hQ.to [Vi (k:Int)] (λH sH=>?_);exact Dj (Value.int .i64) (fidx_found _ l k f hn hfk hq).symm
  ·skip;refine tQ (t:=s.toList == f.toList) (hq) ?_
   refine go0 7 [] [(18,Vi (IntKind.i64.wrap ((k:Int) + 1)),Vi ((k:Int) + 1))] ?_ (hc:=(Aj (jJ (by omega) (by omega)) (trivial)));exact iV (k + 1) (λX q=>⟨W1,q _ _ _ _ ⟨rfl,by kernel_rfl⟩,S2,by omega,(by rw [cZ l k f hfk]; exact λy hy=>(Qj.1 hy).elim (hn y) (λe=>by rw [Pj.1 e]; exact hq))⟩)
 ·skip;have htk:l.take k=l:=by rw [hke, <- hL,Pk]
  rw [htk] at hn;refine tQ (t:=decide ((k:Int) < (len:Int))) (Kj (by omega)) ?_;refine go0 2 [] [] ?_;refine xQ ?_;refine go0 8 [] [] ?_;refine hQ.to [Vi (-1)] (λH sH=>?_);exact Dj (Value.int .i64) (fidx_none _ l hn).symm
def memS (l:List ByteArray) (s:ByteArray):Bool:=l.any λy=>s.toList == y.toList
theorem memS_iff {l:List ByteArray} {s:ByteArray}:memS l s=true↔s∈l:=by
 unfold memS;rw [List.any_eq_true]
 constructor
 ·rintro ⟨y,hy,q⟩;rw [tl_dec] at q;rw [Yq q]; exact hy
 ·intro hm;exact ⟨s,hm,tl_yes rfl⟩
theorem contS_any (l:List ByteArray) (v:Value) (s:ByteArray) (h:Vw) (hr:RS h 1 v (yY l)) (hl:l.length <= 1000000):C0 Tryz.prog 148 #[v,.string s] h (λr _=>r=.bool (memS l s)):=by
 have hi:=λH q=>idxS_any l v s H q hl;have e:decide (0 <= fidx (λy:ByteArray=>s.toList == y.toList) l)=memS l s:=fidx_dec _ _;generalize fidx (λy:ByteArray=>s.toList == y.toList) l=p at *;obtain ⟨A,cap,rfl,-,-,-⟩:=hr.form;refine pQ Tryz.func148 λhbx hbad Q hQ=>?_;refine go0 15 [.cl 193 #[.slice A ((yY l).length) cap,.string s] (Vi p)] [] ?_ (ho:=(Aj (λH sH=>hi _ (hr.sees sH)) (trivial)));refine hQ.to [.bool (decide (p ≥ 0))] (λH sH=>?_);exact Dj Value.bool e
theorem info_str:(Tryz.prog.info? 9).map (λi=>(i.zero,i.size,i.bytes))=some (some (Vt ⟨#[]⟩),1,16):=by kernel_rfl
set_option maxHeartbeats 2000000 in
theorem clone_str (v:Value) (l:List (List Value)) (w:World) (h:Sl w 1 v l) (hk:Len 1 l) (h1:One l) (hl:l.length * 16 <= 140737488355328) :
  Calls Tryz.prog 151 #[v] w (oJ 9 1 l w):=by
 have q22:∀ (w:World) (a:Option Addr) (n c n' c':Nat),(binOp .eql 100 (.slice a n c) (.slice none n' c')).run Tryz.prog w=.ok (.bool a.isNone) w:=λw a n c n' c'=>Lib.run_eql_slice_nil w _ _ a n c n' c' Tryz.underlying100;obtain ⟨A,cap,rfl,c1,c2,hA⟩:=h.form
 cases A with
 | none =>
  obtain rfl:=hA rfl;have h0:l.length=0:=by omega
  obtain rfl:=Wq.1 h0
  go_enter Tryz.func151,Tryz.ntmps151
  go_wp2_with fail
  go_ret
  exact ⟨_,rfl,⟨by simp,.inl ⟨rfl,rfl⟩⟩,Evo.refl _⟩
 | some a =>
  have HR:=Fj h;have HK:=Fj hk;have H1:=Fj h1;clear h hk h1
  go_enter Tryz.func151,Tryz.ntmps151
  go_wp2_with (at_builtin; refine uZ rfl (.tmp 5) (.tmp 6) 100 rfl 9 _ 1 16 Tryz.underlying100 info_str rfl (by decide) w ((Evo.refl _).alloc _) [] l _ _ rfl rfl ⟨World.ownsRow_made w #[] 0 (Hj _) (Mj _) (by simp)⟩ (HR.out.at ((Evo.refl _).alloc _)) HK.out H1.out ?c1 ?c2 ?_)
  case c1=>simp; omega
  case c2=>simpa using hl
  intro v' w1 hown hbl hg;have HW:=Fj (⟨hown,hbl⟩:Own w1 w.heap.size 9 1 v' ([]++l).length ([]++l).flatten /\ Evo w w1);clear hown hg hbl
  go_wp2_with fail
  go_ret
  exact ⟨_,rfl,HW.out.1,HW.out.2⟩
theorem c_cloneS {h:Vw} {v:Value} {l:List ByteArray} (hr:RS h 1 v (yY l)) (hl:l.length <= 1000000):CRow Tryz.prog 151 #[v] h 9 1 (λ_ rows=>rows=yY l) :=
 CRow.of_own (str_len l) (clone_str v (yY l) h.w (Sl.of_rs hr) (str_len _) (str_one _) (by rw [Ij]; omega))
theorem pgRows_get:∀ {l:List Pg} {us vs:List Value} {i:Nat} {p:Pg} {u v:Value},l[i]?=some p -> us[i]?=some u -> vs[i]?=some v -> (mX l us vs)[i]?=some (pgRow p u v)
 | q :: l,u' :: us,v' :: vs,0,p,u,v,h1,h2,h3=>by simp at h1 h2 h3; subst h1 h2 h3; rfl
 | q :: l,u' :: us,v' :: vs,i + 1,p,u,v,h1,h2,h3=>pgRows_get (l:=l) (by simpa using h1) (by simpa using h2) (by simpa using h3)
 | [],_,_,_,_,_,_,h,_,_=>by simp at h
 | _ :: _,[],_,_,_,_,_,_,h,_=>by simp at h
 | _ :: _,_ :: _,[],_,_,_,_,_,_,h=>by simp at h
theorem AllStr.get {h:Vw}:∀ {l:List (List ByteArray)} {us:List Value},AllStr h l us -> ∀ {i:Nat} {x:List ByteArray} {u:Value},l[i]?=some x -> us[i]?=some u -> RS h 1 u (yY x)
 | [],_,_,i,x,u,hx,_=>by simp at hx
 | y :: l,_,⟨u',r,e,k1,k2⟩,i,x,u,hx,hu=>by
  subst e
  cases i with
  | zero=>simp at hx hu; subst hx hu; exact k1
  | succ i=>exact AllStr.get k2 (by simpa using hx) (by simpa using hu)
theorem oX {h:Vw} {v:Value} {l:List Pg} (hp:IsPgs h v l):∃ us vs A cap,v=.slice A l.length cap /\ cap <= maxLen /\ RS h 8 (.slice A l.length cap) (mX l us vs) /\ AllStr h (l.map (·.fields)) us /\ AllArgs h (l.map (·.skip)) vs /\ us.length=l.length /\ vs.length=l.length:=by
 obtain ⟨us,vs,hr,hs,ha⟩:=hp;have hu:=hs.len;have hv:=ha.len;rw [Ij] at hu hv;obtain ⟨A,c,e,-,h2,-⟩:=hr.form;rw [nX hu hv] at e;rw [e] at hr;exact ⟨us,vs,A,c,e,h2,hr,hs,ha,hu,hv⟩
theorem pg_at {h:Vw} {l:List Pg} {us vs:List Value} (hs:AllStr h (l.map (·.fields)) us) (ha:AllArgs h (l.map (·.skip)) vs) {i:Nat} {p:Pg} (hp:l[i]?=some p) :
  ∃ A c B m d,(mX l us vs)[i]?=some (pgRow p (.slice A p.fields.length c) (.slice B m d)) /\ RS h 1 (.slice A p.fields.length c) (yY p.fields) /\ IsArgs h p.skip (.slice B m d):=by
 have hu:=hs.len;have hv:=ha.len;rw [Ij] at hu hv;have hil:=(Nj.1 hp).1;obtain ⟨u,hui⟩:∃ u,us[i]?=some u:=⟨_,Gj (by omega)⟩;obtain ⟨v,hvi⟩:∃ v,vs[i]?=some v:=⟨_,Gj (by omega)⟩;have h1:=AllStr.get hs (x:=p.fields) (by rw [Oj,hp]; rfl) hui;have h2:=AllArgs.get ha (x:=p.skip) (by rw [Oj,hp]; rfl) hvi;obtain ⟨A,c,e,-⟩:=h1.form;rw [Ij] at e;obtain ⟨B,m,d,rfl⟩:=h2.slice;subst e;exact ⟨A,c,B,m,d,pgRows_get hp hui hvi,h1,h2⟩
def findG (l:List Pg) (s:ByteArray):Int:=fidx (λp:Pg=>p.name.toList == s.toList) l
theorem gfind1_any (p:Pg) (u:Value) (A:Option Addr) (n c:Nat) (B:Option Addr) (m d:Nat) (s:ByteArray) (b:Nat) (h:Vw) (hc:Cells h b 0 [Vt s]) :
  C0 Tryz.prog 192 #[.agg #[Vt p.name,.slice A n c,Vi p.skip.op,Vi p.skip.k,Vi p.skip.n,.string p.skip.s,.string p.skip.nm,.slice B m d],.pointer (some ⟨b,0,none⟩)] h (λr _=>r=.bool (p.name.toList == s.toList)):=by
 refine pQ Tryz.func192 λhbx hbad Q hQ=>?_;refine qQ (hc.sees (Sees.refl _)) ?_;refine go1 16 [.own,.b 0 0,.f 0 0] [] ?_;intro b1;refine hQ.to [.bool (p.name.toList == s.toList)] (λH sH=>?_);exact rfl
theorem gidxF_any (s:ByteArray) (l:List Pg) (us vs:List Value) (A:Option Addr) (cap:Nat) (b:Nat) (h:Vw) (hr:RS h 8 (.slice A l.length cap) (mX l us vs)) (hs:AllStr h (l.map (·.fields)) us) (ha:AllArgs h (l.map (·.skip)) vs) (hl:l.length <= 1000000) (hc:Cells h b 0 [Vt s]) (hfl:∀ p∈l,p.fields.length <= 1000000) :
  C0 Tryz.prog 191 #[.slice A l.length cap,.func (.func 192) #[] #[.pointer (some ⟨b,0,none⟩)]] h (λr _=>r=Vi (findG l s)):=by
 have hat:=λi p hp=>pg_at (i:=i) (p:=p) hs ha hp;generalize hL:l.length=len at *;refine pQ Tryz.func191 λhbx hbad Q hQ=>?_;refine go0 14 [] [] ?_;refine yQ [0,1,0,1] [.block 0,.seq [1,1]] (λ(k:Nat) X=>∃ (W1:Vw) ,X W1 [(0,.slice A len cap),(1,.func (.func 192) #[] #[Vp b]),(7,Vi (len:Int)),(8,Vi (k:Int))] [] [] /\ Sees h W1 /\ (k <= len) /\ (∀ y∈l.take k,(y.name.toList == s.toList)=false)) (λk=>len - k) (0) (λX q=>⟨h,q _ _ _ _ ⟨rfl,by kernel_rfl⟩,Sees.refl _,Mj _,λy hy=>by simp at hy⟩) ?_;rintro k a w ⟨W1,hJ,S2,hk,hn⟩; refine dV hJ ?_; clear hJ a w;refine go0 6 [] [] ?_;rcases (by omega:k < len\/k=len) with hlt | hke
 ·obtain ⟨p,hpk⟩:∃ p,l[k]?=some p:=⟨_,Gj (by omega)⟩;obtain ⟨Au,cu,Bu,mu,du,hrow,hrs,-⟩:=hat k p hpk;have hpl:=hfl p (Ej hpk);refine jV (t:=decide ((k:Int) < (len:Int))) (Jj (by omega)) ?_;refine go0 15 [] [] ?_;obtain ⟨b3,o4,rfl,-,c5⟩:=RS.row hr (hrow);refine qQ (c5.sees S2) ?_;refine go0 5 [.ix b3 o4 len cap k,.f 0 0,.cl 192 #[.agg #[Vt p.name,.slice Au p.fields.length cu,Vi p.skip.op,Vi p.skip.k,Vi p.skip.n,.string p.skip.s,.string p.skip.nm,.slice Bu mu du],Vp b] (.bool (p.name.toList == s.toList))] [] ?_ (ho:=(Aj (by first | omega | (simp; omega)) (Aj (λH sH=>gfind1_any p (Vz) _ _ _ _ _ _ s b _ (hc.sees (S2.trans sH))) (trivial))))
  cases boolIs (p.name.toList == s.toList) with
  | true hq =>
   refine jV (t:=p.name.toList == s.toList) (hq) ?_;refine go0 9 [] [] ?_;refine xQ ?_;refine go0 2 [] [] ?_;refine hQ.to [Vi (k:Int)] (λH sH=>?_);exact Dj (Value.int .i64) (fidx_found _ l k p hn hpk hq).symm
  | false hq =>
   refine tQ (t:=p.name.toList == s.toList) (hq) ?_;refine go0 7 [] [(18,Vi (IntKind.i64.wrap ((k:Int) + 1)),Vi ((k:Int) + 1))] ?_ (hc:=(Aj (jJ (by omega) (by omega)) (trivial)));exact iV (k + 1) (λX q=>⟨W1,q _ _ _ _ ⟨rfl,by kernel_rfl⟩,S2,by omega,(by rw [cZ l k p hpk]; exact λy hy=>(Qj.1 hy).elim (hn y) (λe=>by rw [Pj.1 e]; exact hq))⟩)
 ·skip;have htk:l.take k=l:=by rw [hke, <- hL,Pk]
  rw [htk] at hn;refine tQ (t:=decide ((k:Int) < (len:Int))) (Kj (by omega)) ?_;refine go0 2 [] [] ?_;refine xQ ?_;refine go0 8 [] [] ?_;refine hQ.to [Vi (-1)] (λH sH=>?_);exact Dj (Value.int .i64) (fidx_none _ l hn).symm
theorem gFind_any (l:List Pg) (v:Value) (s:ByteArray) (h:Vw) (hp:IsPgs h v l) (hl:l.length <= 1000000) (hfl:∀ p∈l,p.fields.length <= 1000000):C0 Tryz.prog 147 #[v,.string s] h (λr _=>r=.tuple #[Vi (if findG l s < 0 then 0 else findG l s),Vi (if findG l s < 0 then 5 else 0)]):=by
 obtain ⟨us,vs,A,cap,rfl,-,hr,hs,ha,-,-⟩:=oX hp;have hi:=λH b q1 q2 q3 q4=>gidxF_any s l us vs A cap b H q1 q2 q3 hl q4 hfl;generalize findG l s=p at *;refine pQ Tryz.func147 λhbx hbad Q hQ=>?_;refine oV 11 [.fix] [] ?_;intro bsn W1 S2;refine oQ 0 bsn 0 [Vt s] λsn=>?_;refine go0 11 [.cl 191 #[.slice A l.length cap,.func (.func 192) #[] #[Vp bsn]] (Vi p)] [] ?_ (ho:=(Aj (λH sH=>hi _ _ (hr.sees (S2.trans sH)) (hs.sees (S2.trans sH)) (ha.sees (S2.trans sH)) (sn.sees sH)) (trivial)))
 by_cases hp:p < 0
 ·refine jV (t:=decide (p < 0)) (Jj hp) ?_;refine go0 8 [] [] ?_;refine hQ.to [Vi 0,Vi 5] (λH sH=>?_);rw [Cj hp,Cj hp]; rfl
 ·skip;refine tQ (t:=decide (p < 0)) (Kj hp) ?_
  refine go0 10 [] [] ?_;refine hQ.to [Vi p,Vi 0] (λH sH=>?_);rw [Bj hp,Bj hp]; rfl
theorem never_yes (nm:ByteArray) (A:Option Addr) (n c:Nat) (B:Option Addr) (d:Nat) (h:Vw):C0 Tryz.prog 124 #[.agg #[Vt nm,.slice A n c,Vi 0,Vi 0,Vi 0,.string ⟨#[]⟩,.string ⟨#[]⟩,.slice B 0 d]] h (λr _=>r=.bool true):=by
 refine pQ Tryz.func124 λhbx hbad Q hQ=>?_;refine go2 28 [.own,.b 0 2,.own,.b 0 0,.b 0 0,.b 0 4,.b 0 1] [] ?_;intro b1 b2;refine eV (.bool true) (λw=>run_eqop (x:=(.tmp 16)) (y:=(.tmp 17)) (v:=(⟨0,0,⟨#[]⟩⟩:Vl)) (w:=(⟨0,0,⟨#[]⟩⟩:Vl)) (by kernel_rfl) (by kernel_rfl) (by kernel_rfl) (eqB_iff.2 rfl)) ?_;refine go0 11 [.b 0 5] [] ?_;refine hQ.to [.bool true] (λH sH=>?_);exact rfl
theorem never_no (nm:ByteArray) (x:Ex) (A:Option Addr) (n c:Nat) (B:Option Addr) (m d:Nat) (h:Vw) (hx:x.op≠0):C0 Tryz.prog 124 #[.agg #[Vt nm,.slice A n c,Vi x.op,Vi x.k,Vi x.n,.string x.s,.string x.nm,.slice B m d]] h (λr _=>r=.bool false):=by
 refine pQ Tryz.func124 λhbx hbad Q hQ=>?_;refine go2 40 [.own,.b 0 2,.own,.b 0 0,.b 0 0] [(8,.bool (x.op == 0),.bool false)] ?_ (hc:=(Aj (Dj Value.bool (Lj.2 hx)) (trivial)));intro b1 b2;refine hQ.to [.bool false] (λH sH=>?_);exact rfl
end Go.Proofs.YthgcgciceejicaaGreatDoor
