/-
  slices.SortStableFunc at places, by their ranks: a row of the caller's own, fewer than twenty. (Imports the seat's Ins text: wip/ins.sh.)
-/
import Derived.Test.YthgcgciceejicaaGreatDoorZT34
import Derived.Test.YthgcgciceejicaaGreatDoorZT38
import Derived.Test.YthgcgciceejicaaGreatDoorZT37
set_option maxHeartbeats 4000000
set_option maxRecDepth 100000
namespace Go.Proofs.YthgcgciceejicaaGreatDoor
open Go.RowKit Go.Sort Go.Shelf
set_option linter.unusedVariables false
theorem ordc_any {n:Nat} (ρ:List Int) (b bR x y:Nat) (hx:x < n) (hy:y < n) (w:World) (hR:w.cell? ⟨bR,0,none⟩=some (.slice (some ⟨b,0,none⟩) n n)) (hc:∀ i,i < n -> w.cell? ⟨b,i,none⟩=some (Vi (ρ.getD i 0))) :
  Calls Tryz.prog 112 #[Vi (x:Int),Vi (y:Int),.pointer (some ⟨bR,0,none⟩)] w λe w'=>e=.returned (Vi (cmpI (ρ.getD x 0) (ρ.getD y 0))) /\ ∃ q,w'=w.drewN q:=by
 have cx:=hc x hx;have cy:=hc y hy;clear hc;generalize ρ.getD x 0=rx at *;generalize ρ.getD y 0=ry at *;have x1:(x:Int) < (n:Int):=by omega
 have y1:(y:Int) < (n:Int):=by omega
 go_enter Tryz.func112,Tryz.ntmps112
 go_wp2_with fail
 go_quiet ((go_at_call 113; exact Calls.quiet_of_same ((cmp_int rx ry _).mono λ_ _ h=>⟨h.1,h.2.symm⟩)))
 go_wp2_with fail
 go_ret
 exact ⟨rfl,_,rfl⟩
abbrev Pl (n:Nat):={ k:Nat // k < n }
def encP {n:Nat} (k:Pl n):Value:=Vi (k.val:Int)
def cfP {n:Nat} (ρ:List Int) (x y:Pl n):Int:=cmpI (ρ.getD x.val 0) (ρ.getD y.val 0)
theorem cfP_lt {n:Nat} (ρ:List Int) (x y:Pl n):ltOf (cfP ρ) x y=decide (ρ.getD x.val 0 < ρ.getD y.val 0):=by
 unfold ltOf cfP cmpI;generalize ρ.getD x.val 0=a;generalize ρ.getD y.val 0=b
 by_cases h:a < b
 ·rw [Cj h,Jj h]; rfl
 ·rw [Bj h,Kj h]
  split <;> rfl
theorem cfP_swo {n:Nat} (ρ:List Int):SWO (ltOf (cfP (n:=n) ρ)) where
 irrefl x:=by rw [cfP_lt]; simp
 trans x y z h1 h2:=by
  rw [cfP_lt] at *;exact Jj (by have:=Yq h1; have:=Yq h2; omega)
 ntrans x y z h1 h2:=by
  rw [cfP_lt] at *;exact Kj (by have:=of_decide_eq_false h1; have:=of_decide_eq_false h2; omega)
def ordA (ρ:List Int) (n:Nat) (hn:0 < n) (d:Array (Pl n)):Array (Pl n):=letI:Inhabited (Pl n):=⟨⟨0,hn⟩⟩; insertionSort (ltOf (cfP ρ)) d 0 n
def HoldsP {n:Nat} (hn:0 < n) (w:World) (g:Nat) (d:Array (Pl n)):Prop:=letI:Inhabited (Pl n):=⟨⟨0,hn⟩⟩; Holds encP w g 0 d
def putP {n:Nat} (hn:0 < n) (w:World) (g:Nat) (d:Array (Pl n)):World:=letI:Inhabited (Pl n):=⟨⟨0,hn⟩⟩; putRow encP w g 0 d
theorem putRow_map {α:Type} [Inhabited α] (enc:α -> Value) (w:World) (b o:Nat) (d:Array α):putRow enc w b o d=putRow id w b o (d.map enc):=by
 unfold putRow;have e:putCells enc o d=putCells id o (d.map enc):=by
  funext c
  unfold putCells
  congr 1
  funext k x
  rw [Array.size_map]
  by_cases h:o <= k /\ k < o + d.size
  ·rw [Cj h,Cj h];have h1:k - o < d.size:=by omega
   rw [Hv d _ h1,Hv (d.map enc) _ (by rw [Array.size_map]; exact h1),Array.getElem_map]; rfl
  ·rw [Bj h,Bj h]
 rw [e]
theorem ins_any {n:Nat} (hn:0 < n) (hn20:n < 20) (ρ:List Int) (b bR g cap:Nat) (d:Array (Pl n)) (hd:d.size=n) (w:World) (hR:w.cell? ⟨bR,0,none⟩=some (.slice (some ⟨b,0,none⟩) n n)) (hc:∀ i,i < n -> w.cell? ⟨b,i,none⟩=some (Vi (ρ.getD i 0))) (hg1:bR≠g) (hg2:b≠g)
  (hH:HoldsP hn w g d) :
  Calls Tryz.prog 207 #[.slice (some ⟨g,0,none⟩) n cap,Vi 0,Vi (n:Int),.func (.func 112) #[] #[.pointer (some ⟨bR,0,none⟩)]] w λe w'=>e=.returned (.tuple #[]) /\ ∃ k,w'=(putP hn w g (ordA ρ n hn d)).drewN k:=by
 letI:Inhabited (Pl n):=⟨⟨0,hn⟩⟩
 have lR:=Rx w _ hR;have lb:=Rx w _ (hc 0 hn);have hcmp:CmpReads Tryz.prog 112 #[.pointer (some ⟨bR,0,none⟩)] (encP (n:=n)) (cfP ρ) g 0 d.size w:=by
  intro m os dk hdk x y;have e1:∀ a:Addr,a.block < w.heap.size -> a.block≠g -> (sortWorld encP w g 0 m dk os).cell? a=w.cell? a:=λa ha hag=>by
   unfold sortWorld;rw [cell?_grow _ _ _ (by rw [size_putRow]; exact ha),cell?_putRow_other _ _ _ _ _ _ (.inl hag)]
   rfl
  exact ordc_any ρ b bR x.val y.val x.2 y.2 _ ((e1 ⟨bR,0,none⟩ lR hg1).trans hR) (λi hi=>(e1 ⟨b,i,none⟩ lb hg2).trans (hc i hi))
 have:=Any.insertionSortCmpFunc_one Tryz.insInts encP (λ_=>rfl) (cfP ρ) 112 #[.pointer (some ⟨bR,0,none⟩)] g 0 cap 0 n d w (enters_of Tryz.func112 (by kernel_rfl) rfl) hcmp hH (Mj _) (by omega) (by omega)
 rw [hd] at this;exact this
theorem stable_any {n:Nat} (hn:0 < n) (hn20:n < 20) (ρ:List Int) (b bR g cap:Nat) (d:Array (Pl n)) (hd:d.size=n) (w:World) (hR:w.cell? ⟨bR,0,none⟩=some (.slice (some ⟨b,0,none⟩) n n)) (hc:∀ i,i < n -> w.cell? ⟨b,i,none⟩=some (Vi (ρ.getD i 0))) (hg1:bR≠g) (hg2:b≠g)
  (hH:HoldsP hn w g d) :
  Calls Tryz.prog 164 #[.slice (some ⟨g,0,none⟩) n cap,Vi (n:Int),.func (.func 112) #[] #[.pointer (some ⟨bR,0,none⟩)]] w λe w'=>e=.returned (.tuple #[]) /\ ∃ k,w'=(putP hn w g (ordA ρ n hn d)).drewN k:=by
 have HI:=ins_any hn hn20 ρ b bR g cap d hd w hR hc hg1 hg2 hH;have x1:(n:Int) < 20:=by omega
 clear hR hc hH;generalize putP hn w g (ordA ρ n hn d)=W at *;have HI:=Fj HI
 go_enter Tryz.func164,Tryz.ntmps164
 go_wp2_with fail
 go_loopw [7,8] (λa b wr=>a=Vi 0 /\ b=Vi 20 /\ wr=w) (λ_ _ _=>0)
 case atStart=>exact ⟨rfl,rfl,rfl⟩
 case round =>
  obtain ⟨rfl,rfl,rfl⟩:=hrel
  go_wp2_with fail
  with_reducible refine (HI.out).mono ?_
  rintro e w' ⟨rfl,k,rfl⟩
  go_wp2_with fail
  go_loopw [6] (λa wr=>a=Vi 20 /\ wr=W.drewN k) (λ_ _=>0)
  case atStart=>exact ⟨rfl,rfl⟩
  case round =>
   obtain ⟨rfl,rfl⟩:=hrel
   go_wp2_with fail
   go_end0
   exact ⟨rfl,k,rfl⟩
theorem sort_any {n:Nat} (hn:0 < n) (hn20:n < 20) (ρ:List Int) (b bR g cap:Nat) (d:Array (Pl n)) (hd:d.size=n) (w:World) (hR:w.cell? ⟨bR,0,none⟩=some (.slice (some ⟨b,0,none⟩) n n)) (hc:∀ i,i < n -> w.cell? ⟨b,i,none⟩=some (Vi (ρ.getD i 0))) (hg1:bR≠g) (hg2:b≠g)
  (hH:HoldsP hn w g d) :
  Calls Tryz.prog 111 #[.slice (some ⟨g,0,none⟩) n cap,.func (.func 112) #[] #[.pointer (some ⟨bR,0,none⟩)]] w λe w'=>e=.returned (.tuple #[]) /\ ∃ k,w'=(putP hn w g (ordA ρ n hn d)).drewN k:=by
 have HI:=stable_any hn hn20 ρ b bR g cap d hd w hR hc hg1 hg2 hH;clear hR hc hH;generalize putP hn w g (ordA ρ n hn d)=W at *;have HI:=Fj HI
 go_enter Tryz.func111,Tryz.ntmps111
 go_wp2_with fail
 with_reducible refine (HI.out).mono ?_
 rintro e w' ⟨rfl,k,rfl⟩
 go_wp2_with fail
 go_end0
 exact ⟨rfl,k,rfl⟩
theorem ordA_perm (ρ:List Int) (n:Nat) (hn:0 < n) (d:Array (Pl n)) (hd:d.size=n):(ordA ρ n hn d).toList.Perm d.toList /\ (ordA ρ n hn d).size=n /\ ∀ (i j:Nat) (x y:Pl n),i < j -> (ordA ρ n hn d)[i]?=some x -> (ordA ρ n hn d)[j]?=some y -> ρ.getD x.val 0 <= ρ.getD y.val 0:=by
 letI:Inhabited (Pl n):=⟨⟨0,hn⟩⟩
 obtain ⟨⟨h1,-,h2⟩,h3⟩:=insertionSort_holds (lt:=ltOf (cfP (n:=n) ρ)) (cfP_swo ρ) d 0 n (Mj _) (by omega);have e1:(ordA ρ n hn d)=insertionSort (ltOf (cfP ρ)) d 0 n:=rfl;have h1':(ordA ρ n hn d).size=n:=by rw [e1,h1,hd]
 have x1:(ordA ρ n hn d).extract 0 n=ordA ρ n hn d:=by have:=Array.extract_size (xs:=ordA ρ n hn d); rwa [h1'] at this
 have x2:d.extract 0 n=d:=by have:=Array.extract_size (xs:=d); rwa [hd] at this
 rw [<- e1,x1,x2] at h2;rw [<- e1] at h3;refine ⟨h2,h1',λi j x y hij hx hy=>?_⟩;obtain ⟨hi,rfl⟩:=Nk.1 hx;obtain ⟨hj,rfl⟩:=Nk.1 hy;have h4:=h3 i j (Mj _) hij (by omega);rw [Hv _ i hi,Hv _ j hj,cfP_lt] at h4
 have:=of_decide_eq_false h4
 omega
def iX (ρ:List Int) (n:Nat):List Nat:=if hn:0 < n then ((ordA ρ n hn (Array.ofFn (n:=n) λi=>⟨i.val,i.isLt⟩)).toList.map Subtype.val) else []
theorem ordL_spec (ρ:List Int) (n:Nat) (hn:0 < n):(iX ρ n).Perm (List.range n) /\ ∀ (i j x y:Nat),i < j -> (iX ρ n)[i]?=some x -> (iX ρ n)[j]?=some y -> ρ.getD x 0 <= ρ.getD y 0:=by
 obtain ⟨h1,h2,h3⟩:=ordA_perm ρ n hn (Array.ofFn (n:=n) λi=>⟨i.val,i.isLt⟩) (by simp);have e:iX ρ n=((ordA ρ n hn (Array.ofFn (n:=n) λi=>⟨i.val,i.isLt⟩)).toList.map Subtype.val):=by unfold iX; rw [dif_pos hn]
 rw [e];generalize ordA ρ n hn (Array.ofFn (n:=n) λi=>⟨i.val,i.isLt⟩)=D at *
 constructor
 ·refine (h1.map Subtype.val).trans (List.Perm.of_eq ?_);refine Vq λi=>?_;rw [Oj,Qv]
  by_cases hi:i < n
  ·rw [List.getElem?_range hi];simp [hi]
  ·rw [Gv (by simp; omega),Gx (by simp; omega)]; rfl
 ·intro i j x y hij hx hy;rw [Oj,Zw] at hx hy;obtain ⟨a,ha,rfl⟩:=hx;obtain ⟨c,hc,rfl⟩:=hy;rw [Qv] at ha hc;exact h3 i j a c hij ha hc
abbrev CSetW (P:Program) (f:FuncId) (args:Array Value) (w:World) (base g m cap:Nat) (e:TypeId) (kk:Nat) (l':List (List Value)):Prop :=
 Calls P f args w λen w'=>en=.returned (.tuple #[]) /\ w.grownBy w' (some g) /\ w'.heap.size=w.heap.size /\ Ent.ok base w' (.row (.slice (some ⟨g,0,none⟩) m cap) e kk l')
section
variable {P:Program} {C:Fx} {E:List (Nat × Value)} {B:List Ent} {F:List Fac} {h:Vw} {a:Act} {w:World} {Q:Exit -> Act -> World -> Prop} {c0:Code} {p:List Nat} {n:Nat} {ks:List Kt}
theorem x_callsetw {f:FuncId} {args:Array Value} {e:TypeId} {g m cap kk:Nat} {l l':List (List Value)} (hK:K C E B F h a w) (d i:Nat) (hB:B[i]?=some (.row (.slice (some ⟨g,0,none⟩) m cap) e kk l)) (hc:Ent.ok C.base w (.row (.slice (some ⟨g,0,none⟩) m cap) e kk l) -> CSetW P f args w C.base g m cap e kk l')
  (hk:∀ w,callAt P C E (fX c0 p) ((fX c0 p).toList.drop n) d w=[.b true,.r (.ok (.enter f args) w)])
  (k:∀ a w,K C ((d,.tuple #[]) :: E) (B.set i (.row (.slice (some ⟨g,0,none⟩) m cap) e kk l')) F h a w -> Goal P c0 Q (.ops p (n + 1)) ks a w):Goal P c0 Q (.ops p n) ks a w:=by
 obtain ⟨o,r,hl,hg,hd,hlt,hkn,hrun⟩:=zJ hk;have hr:=kK hl;refine kJ hl (iQ hK.j.fits hg) (Vk rfl λKK hKK=>?_);unfold Oper.wp;have hrun':∀ w,(execOp (evD E) { o with guard:=none }).run P w=.ok (.enter f args) w:=λw=>by
  have:=hrun w
  unfold execOp at this ⊢;exact this
 rw [kY (o:={ o with guard:=none }) hK.j.fits hkn,hrun'];refine (hc (hK.j.ents _ (Ej hB))).mono ?_;rintro e' w' ⟨rfl,h1,h2,h3⟩;refine hKK _ _ ?_;rw [hr];exact k _ _ ⟨(hK.j.setRow hB h1 h2 h3).putd _ hd hlt,hK.f⟩
theorem g_callsetw {s:Z} {f:FuncId} {args:Array Value} {e:TypeId} {g m cap kk:Nat} {l l':List (List Value)} (i:Nat) (hc:∀ a w,K C s.E s.B s.F h a w -> Ent.ok C.base w (.row (.slice (some ⟨g,0,none⟩) m cap) e kk l) -> CSetW P f args w C.base g m cap e kk l')
  (k:Go P C c0 Q h ((s.nx c0 (.tuple #[])).cB i (.row (.slice (some ⟨g,0,none⟩) m cap) e kk l'))) (hB:s.B[i]?=some (.row (.slice (some ⟨g,0,none⟩) m cap) e kk l):=by kernel_rfl) (hk:s.callOk P C c0 f args:=by intro _; kernel_rfl):Go P C c0 Q h s :=
 g_ops (aK hk).1 λa w hK=>x_callsetw hK (s.d c0) i hB (hc a w hK) (aK hk).2 k.go
end
theorem natRows_flat (l:List Nat):(oW l).flatten=l.map λ(k:Nat)=>Value.int .i64 (k:Int):=by
 induction l with
 | nil=>rfl
 | cons a l ih=>show [Value.int .i64 (a:Int)]++(oW l).flatten=_; rw [ih]; rfl
theorem sort_set {n:Nat} (hn:0 < n) (hn20:n < 20) (ρ:List Int) (hρ:ρ.length=n) (b bR g cap base:Nat) (w:World) (bd:List Nat) (hR:Cells ⟨w,[]⟩ bR 0 [.slice (some ⟨b,0,none⟩) n n]) (hr:RS ⟨w,bd⟩ 1 (.slice (some ⟨b,0,none⟩) n n) (eY ρ)) (hgd:g∈bd) (hg1:bR≠g)
  (hok:Ent.ok base w (.row (.slice (some ⟨g,0,none⟩) n cap) 3 1 (oW (List.range n)))) :
  CSetW Tryz.prog 111 #[.slice (some ⟨g,0,none⟩) n cap,.func (.func 112) #[] #[.pointer (some ⟨bR,0,none⟩)]] w base g n cap 3 1 (oW (iX ρ n)):=by
 obtain ⟨k1,k2⟩:=hok;have hlen:(oW (List.range n)).length=n:=by simp
 have k1n:=k1;rw [hlen] at k1n;have hbx:=row_box k1n;have hgb:b≠g:=by
  rcases hr with ⟨A,c,e,-,-,-⟩ | ⟨b',off,c,e,-,-,-,hnb,-⟩
  ·simp only [Tk] at e; omega
  ·simp only [Tk,Yj,Addr.mk.injEq] at e;obtain ⟨⟨rfl,-,-⟩,-,-⟩:=e;intro q; rw [q] at hnb; exact hnb hgd
 have hc:∀ i,i < n -> w.cell? ⟨b,i,none⟩=some (Vi (ρ.getD i 0)):=λi hi=>by
  have hri:=rk_get (l:=ρ) (i:=i) (by omega);obtain ⟨b',off,e,-,hcs⟩:=hr.row hri;simp only [Yj,Addr.mk.injEq] at e;obtain ⟨rfl,rfl,-⟩:=e
  have:=hcs.lies 0 _ rfl
  simpa using this
 have hRc:w.cell? ⟨bR,0,none⟩=some (.slice (some ⟨b,0,none⟩) n n):=by simpa using hR.lies 0 _ rfl
 have hD:(Array.ofFn (n:=n) λi=>(⟨i.val,i.isLt⟩:Pl n)).size=n:=by simp
 have hH:HoldsP hn w g (Array.ofFn (n:=n) λi=>⟨i.val,i.isLt⟩):=by
  letI:Inhabited (Pl n):=⟨⟨0,hn⟩⟩
  intro j hj;rw [hD] at hj;refine ⟨?_,hbx.free _⟩
  have:=hbx.cells j (Vi (j:Int)) (by rw [natRows_flat,Oj,List.getElem?_range hj]; rfl)
  rw [Gq,this,Hv _ j (by rw [hD]; exact hj)];simp [encP]
 refine Calls.mono (sort_any hn hn20 ρ b bR g cap _ hD w hRc hc hg1 hgb hH) ?_;rintro e w' ⟨rfl,k,rfl⟩;have hO:(ordA ρ n hn (Array.ofFn (n:=n) λi=>⟨i.val,i.isLt⟩)).size=n:=(ordA_perm ρ n hn _ hD).2.1;have hvs:((ordA ρ n hn (Array.ofFn (n:=n) λi=>⟨i.val,i.isLt⟩)).map encP)=((oW (iX ρ n)).flatten).toArray:=by
  rw [natRows_flat];unfold iX;rw [dif_pos hn,Jv]
  apply Array.ext'
  simp [encP,Function.comp_def]
 have hll:(oW (iX ρ n)).flatten.length=n:=by
  have:=Dj Array.size hvs
  rw [Array.size_map,hO,Rq] at this;exact this.symm
 have hl0:(oW (List.range n)).flatten.length=n:=by rw [natRows_flat]; simp
 have hw:(putP hn w g (ordA ρ n hn (Array.ofFn (n:=n) λi=>⟨i.val,i.isLt⟩))).drewN k=(Go.Sort.ahead w k).setCells g 0 (oW (iX ρ n)).flatten:=by
  letI:Inhabited (Pl n):=⟨⟨0,hn⟩⟩
  have h2:Holds id (Go.Sort.ahead w k) g 0 (oW (List.range n)).flatten.toArray:=λj hj=>by
   have hj:j < (oW (List.range n)).flatten.length:=by simpa using hj
   refine ⟨?_,hbx.free _⟩;rw [Gq];show w.cell? ⟨g,j,none⟩=_;rw [hbx.cells j _ (Gj hj),Hv _ _ (by simpa using hj)]; simp
  have:=setCells_putRow (Go.Sort.ahead w k) g 0 (oW (iX ρ n)).flatten 0 (oW (List.range n)).flatten.toArray (by rw [Rq,hll,hl0]; omega)
  rw [putRow_self id _ g 0 _ h2,setMany_all _ _ (by rw [Rq,hll,hl0])] at this;rw [Pv] at this;rw [this];show (putRow encP w g 0 _).drewN k=_;rw [putRow_map,hvs]
  rfl
 rw [hw];have k1':(Go.Sort.ahead w k).ownsRow base 3 1 (.slice (some ⟨g,0,none⟩) n cap) n (oW (List.range n)).flatten:=k1n;obtain ⟨q1,q2⟩:=iY (oW (iX ρ n)).flatten 0 (oW (List.range n)).flatten (Go.Sort.ahead w k) k1' (by omega);have e:uX (oW (List.range n)).flatten 0 (oW (iX ρ n)).flatten=(oW (iX ρ n)).flatten:=by
  unfold uX;rw [Gq,hll,Vv (by omega)]; simp
 rw [e] at q1;have hol:(oW (iX ρ n)).length=(oW (List.range n)).length:=by
  rw [natRows_flat,Ij] at hll;rw [Ij,hll,hlen]
 refine ⟨rfl,⟨q2.os,q2.tape,q2.output,q2.size,q2.block⟩,tY _ _ _ _,?_,λr hr=>by obtain ⟨x,-,rfl⟩:=Rj.1 hr; rfl⟩;rw [hol,hlen]; exact q1
open Go.RowKit
abbrev pdV:Vl:=⟨4,0,⟨#[]⟩⟩
structure Aw where
 nm:ByteArray
 key:Vl
 has:Vl
@[reducible] def anRow (p:Aw):List Value:=[Vt p.nm,Vi p.key.k,Vi p.key.n,.string p.key.s,Vi p.has.k,Vi p.has.n,.string p.has.s]
abbrev anRows (l:List Aw):List (List Value):=l.map anRow
def Aw.hit (p:Aw) (s:ByteArray) (key:Vl):Bool:=p.nm.toList == s.toList && eqB p.key key
def askL (s:ByteArray) (key:Vl):List Aw -> Vl
 | []=>pdV
 | p :: l=>if p.hit s key=true then p.has else askL s key l
def askV (l:List Aw) (s:ByteArray) (key:Vl):Vl:=if key.k <= 3 then askL s key l else key
def tellV (s:ByteArray) (t:Int):Env -> Vl
 | []=>⟨t,0,⟨#[]⟩⟩
 | p :: l=>if (p.1.toList == s.toList)=true then p.2 else tellV s t l
def yW (f:Fd) (inp:Env) (orc:List Aw) (kn:Env):Vl :=
 if f.kind=1 then tellV f.name f.ty inp else if f.kind=3 then askV orc f.name (mK kn f.src) else mK kn f.src
def stepW (fs:List Fd) (inp:Env) (orc:List Aw) (s:List Vl × Env) (i:Nat):List Vl × Env:=match fs[i]? with
 | some f=>(s.1.set i (yW f inp orc s.2),s.2++[(f.name,yW f inp orc s.2)])
 | none=>s
def runW (fs:List Fd) (inp:Env) (orc:List Aw) (os:List Nat):List Vl × Env:=os.foldl (stepW fs inp orc) (List.replicate fs.length zV,[])
theorem runW_snoc (fs:List Fd) (inp:Env) (orc:List Aw) (os:List Nat) (i:Nat):runW fs inp orc (os++[i])=stepW fs inp orc (runW fs inp orc os) i:=by unfold runW; rw [Rw]; rfl
theorem stepW_at {fs:List Fd} {i:Nat} {f:Fd} (hf:fs[i]?=some f) (inp:Env) (orc:List Aw) (s:List Vl × Env):stepW fs inp orc s i=(s.1.set i (yW f inp orc s.2),s.2++[(f.name,yW f inp orc s.2)]):=by unfold stepW; rw [hf]
theorem run_at (fs:List Fd) (inp:Env) (orc:List Aw) (os:List Nat) (k i:Nat) (hi:os[k]?=some i) (g:Fd) (hg:fs[i]?=some g):runW fs inp orc (os.take (k + 1))=((runW fs inp orc (os.take k)).1.set i (yW g inp orc (runW fs inp orc (os.take k)).2),(runW fs inp orc (os.take k)).2++[(g.name,yW g inp orc (runW fs inp orc (os.take k)).2)]):=by
 rw [Ov,hi];show runW fs inp orc (os.take k++[i])=_;rw [runW_snoc,stepW_at hg]
def allW (fs:List Fd) (inp:Env) (orc:List Aw) (os:List Nat):List Vl:=(runW fs inp orc os).1
def fcs:List Fd -> List Vl -> Env
 | f :: fs,v :: vs=>(f.name,v) :: fcs fs vs
 | _,_=>[]
theorem fcs_get:∀ {fs:List Fd} {v:List Vl} {i:Nat} {f:Fd} {x:Vl},(fs.map (λf:Fd=>f.name)).Nodup -> fs[i]?=some f -> v[i]?=some x -> (fcs fs v).get f.name=some x
 | [],_,_,_,_,_,h,_=>by simp at h
 | _ :: _,[],_,_,_,_,_,h=>by simp at h
 | g :: fs,u :: vs,0,f,x,_,h1,h2=>by
  simp only [Nx,Yj] at h1 h2;subst h1 h2;exact env_hit _ _ _
 | g :: fs,u :: vs,i + 1,f,x,hd,h1,h2=>by
  rw [Ik,Mq] at hd;have h1:fs[i]?=some f:=by simpa using h1
  show Env.get ((g.name,u) :: fcs fs vs) f.name=some x;rw [env_miss _ _ λe=>hd.1 (Rj.2 ⟨f,Ej h1,e⟩)];exact fcs_get hd.2 h1 (by simpa using h2)
structure Sol (fs:List Fd) (inp:Env) (orc:List Aw) (v:List Vl):Prop where
 len:v.length=fs.length
 at_:∀ (i:Nat) (f:Fd) (x:Vl),fs[i]?=some f -> v[i]?=some x -> x=yW f inp orc (fcs fs v)
theorem oneV_congr {f:Fd} {inp:Env} {orc:List Aw} {e1 e2:Env} (h:f.kind≠1 -> ∀ s∈yX f.src,e1.get s=e2.get s):yW f inp orc e1=yW f inp orc e2:=by
 unfold yW
 by_cases h1:f.kind=1
 ·rw [Cj h1,Cj h1]
 ·rw [Bj h1,Bj h1,eval_local (h h1)]
theorem refs_typed {f:ByteArray -> Option Int} {x:Ex}:WfE x -> (tyE f x).2=0 -> ∀ s∈yX x,(f s).isSome=true:=by
 refine ex_ind (p:=λx=>WfE x -> (tyE f x).2=0 -> ∀ s∈yX x,(f s).isSome=true) (λx ih hw ht s hs=>?_) x;rw [zX] at hs;rw [tyE_eq] at ht
 by_cases h2:x.op=2
 ·rw [Cj h2,ref_args hw h2] at hs;have hs:s=x.nm:=by
   rcases Qj.1 hs with q | q
   ·exact Pj.1 q
   ·rw [aY] at q; cases q
  rw [Bj (by omega),Cj h2] at ht;rw [hs]
  cases hf:f x.nm with
  | some t=>rfl
  | none=>rw [hf] at ht; exact absurd ht (by decide)
 ·rw [Bj h2,Uv,mem_refsL] at hs;obtain ⟨y,hy,hs⟩:=hs
  by_cases h1:x.op=1
  ·have:x.args=[]:=by
    rcases hw.top with ⟨-,-,-,-,h⟩ | ⟨h,-⟩ | ⟨h,-⟩
    ·exact Wq.1 h
    ·omega
    ·omega
   rw [this] at hy; cases hy
  ·rw [Bj h1,Bj h2] at ht
   by_cases hL:(tyL f x.args).2=0
   ·obtain ⟨-,hg⟩:=tyL_get (f:=f) (l:=x.args) (ts:=(tyL f x.args).1) (Prod.ext rfl hL);obtain ⟨i,hi⟩:=Bq hy;obtain ⟨t,-,e⟩:=hg i y hi;exact ih y hy (hw.list.get hy) (by rw [e]) s hs
   ·rw [Bj hL] at ht;exact absurd ht hL
theorem tyF_some {fs:List Fd} {s:ByteArray} (h:(tyF fs s).isSome=true):∃ (i:Nat) (f:Fd),fs[i]?=some f /\ f.name=s:=by
 induction fs with
 | nil=>cases h
 | cons g l ih =>
  rw [tyF] at h
  by_cases e:(s == g.name)=true
  ·exact ⟨0,g,rfl,((Xk _ _).1 e).symm⟩
  ·rw [Bj e] at h;obtain ⟨i,f,h1,h2⟩:=ih h;exact ⟨i + 1,f,by simpa using h1,h2⟩
theorem refs_need {fs:List Fd} (hok:OkFs fs) {i:Nat} {f:Fd} (hf:fs[i]?=some f) (hk:f.kind≠1) {s:ByteArray} (hs:s∈yX f.src):∃ (j:Nat) (g:Fd),fs[j]?=some g /\ g.name=s /\ j∈(pW fs).getD i []:=by
 have hF:=hok.each f (Ej hf);have ht:(tyE (tyF fs) f.src).2=0:=by
  have k1:=hF.k1;have k3:=hF.k3;rcases (by omega:f.kind=2\/f.kind=3) with q | q
  ·rw [hF.form q]
  ·obtain ⟨t,-,-,e⟩:=hF.look q;rw [e]
 obtain ⟨j,g,h1,h2⟩:=tyF_some (refs_typed (hF.wf hk).1 ht s hs);refine ⟨j,g,h1,h2,?_⟩;have hfd:=dQ hok.nodup h1;rw [h2] at hfd
 have:(pW fs).getD i []=needE fs f:=by unfold pW; rw [Uk,Oj,hf]; rfl
 rw [this];unfold needE;rw [Bj hk];refine Rj.2 ⟨s,mem_namesE.2 hs,?_⟩;unfold plc;rw [hfd]; rfl
structure AnOk (fs:List Fd) (p:Aw):Prop where
 place:∃ (i:Nat) (f:Fd) (t:Int),fs[i]?=some f /\ f.name=p.nm /\ f.kind=3 /\ tyE (tyF fs) f.src=(t,0) /\ p.key.k=t /\ p.has.k=f.ty
 key:p.key.known
 has:p.has.known
structure OkOrc (fs:List Fd) (orc:List Aw):Prop where
 each:∀ p∈orc,AnOk fs p
 once:orc.Pairwise (λp q=>p.hit q.nm q.key=false)
theorem OkOrc.nil (fs:List Fd):OkOrc fs []:=⟨λp hp=>(by cases hp),List.Pairwise.nil⟩
abbrev lZ (l:List Vl):List (List Value):=l.map Vl.cells
theorem vlRows_set (l:List Vl) (i:Nat) (x:Vl):(lZ l).set i x.cells=lZ (l.set i x):=List.map_set.symm
theorem vlRows_get {l:List Vl} {i:Nat} {x:Vl} (h:l[i]?=some x):(lZ l)[i]?=some x.cells:=by rw [Oj,h]; rfl
theorem ask_ok {orc:List Aw} (h:∀ p∈orc,OkV p.has) (s:ByteArray) (key:Vl):OkV (askL s key orc):=by
 induction orc with
 | nil=>exact .inr (.inl rfl)
 | cons p l ih =>
  rw [askL]
  split
  ·exact h p (by simp)
  ·exact ih λq hq=>h q (by simp [hq])
theorem tell_ok {inp:Env} (h:∀ p∈inp,p.2.known) (s:ByteArray) {t:Int} (h1:1 <= t) (h3:t <= 3):(tellV s t inp).known:=by
 induction inp with
 | nil =>
  show pJ t 0 ⟨#[]⟩;rcases (by omega:t=1\/t=2\/t=3) with e | e | e
  ·exact .inl ⟨e,⟨by decide,by decide⟩,rfl⟩
  ·exact .inr (.inl ⟨e,.inl rfl,rfl⟩)
  ·exact .inr (.inr ⟨e,rfl,by decide,λi hi=>absurd hi (Mv i)⟩)
 | cons p l ih =>
  rw [tellV]
  split
  ·exact h p (by simp)
  ·exact ih λq hq=>h q (by simp [hq])
theorem get_ok {l:Env} (h:∀ p∈l,OkV p.2):EnvOk l:=λ_ _ hs=>h _ (get_mem hs)
theorem oneV_ok {fs:List Fd} {f:Fd} (hf:OkF fs f) {inp:Env} (hi:∀ p∈inp,p.2.known) {orc:List Aw} (ho:∀ p∈orc,OkV p.has) {kn:Env} (hk:∀ p∈kn,OkV p.2):OkV (yW f inp orc kn):=by
 unfold yW
 by_cases h1:f.kind=1
 ·rw [Cj h1]; exact .inl (tell_ok hi _ hf.t1 hf.t3)
 ·have he:=evalE_ok (get_ok hk) _ f.src (Hj _) (hf.wf h1).1;rw [Bj h1]
  split
  ·unfold askV
   split
   ·exact ask_ok ho _ _
   ·exact he
  ·exact he
structure RunI (fs:List Fd) (inp:Env) (orc:List Aw) (os:List Nat) (s:List Vl × Env):Prop where
 len:s.1.length=fs.length
 klen:s.2.length=os.length
 ok:∀ p∈s.2,OkV p.2
 okv:∀ i∈os,∀ x,s.1[i]?=some x -> OkV x
 at_:∀ i∈os,∀ f,fs[i]?=some f -> ∃ x,s.1[i]?=some x /\ s.2.get f.name=some x /\ x=yW f inp orc s.2
 asks:∀ i∈os,∀ f,fs[i]?=some f -> f.kind≠1 -> ∀ n∈yX f.src,(s.2.get n).isSome=true
 back:∀ n v,s.2.get n=some v -> ∃ i∈os,∃ f,fs[i]?=some f /\ f.name=n
theorem get_app {s:ByteArray} {l m:Env} {v:Vl} (h:l.get s=some v):Env.get (l++m) s=some v:=by
 induction l with
 | nil=>cases h
 | cons p l ih =>
  obtain ⟨k,u⟩:=p;show Env.get ((k,u) :: (l++m)) s=some v;rw [Env.get] at h ⊢
  split at h
  ·rw [Cj (by assumption)]; exact h
  ·rw [Bj (by assumption)]; exact ih h
theorem run_step {fs:List Fd} (hok:OkFs fs) {inp:Env} (hi:∀ p∈inp,p.2.known) {orc:List Aw} (ho:∀ p∈orc,OkV p.has) {os:List Nat} {s:List Vl × Env} (h:RunI fs inp orc os s) {i:Nat} {f:Fd} (hf:fs[i]?=some f) (hn:i ∉ os)
  (hr:∀ j∈(pW fs).getD i [],j∈os):RunI fs inp orc (os++[i]) (stepW fs inp orc s i):=by
 have hil:i < fs.length:=(Nj.1 hf).1;have hnew:s.2.get f.name=none:=by
  cases hg:s.2.get f.name with
  | none=>rfl
  | some v =>
   obtain ⟨j,hj,g,h1,h2⟩:=h.back _ _ hg;have e1:=dQ hok.nodup h1;have e2:=dQ hok.nodup hf;rw [h2,e2] at e1;have e1:i=j:=by omega
   rw [e1] at hn;exact absurd hj hn
 have hasks:f.kind≠1 -> ∀ n∈yX f.src,(s.2.get n).isSome=true:=λhk n hm=>by
  obtain ⟨j,g,h1,h2,h3⟩:=refs_need hok hf hk hm;obtain ⟨x,-,q,-⟩:=h.at_ j (hr j h3) g h1;rw [h2] at q;rw [q]; rfl
 have hx:=oneV_ok (hok.each f (Ej hf)) hi ho h.ok;rw [stepW_at hf];have hstay:∀ {n:ByteArray} {p:ByteArray × Vl},(s.2.get n).isSome=true -> s.2.get n=Env.get (s.2++[p]) n:=λ{n p} q=>by
  obtain ⟨v,hv⟩:=Kx.1 q;rw [hv,get_app hv]
 have hhit:∀ x:Vl,Env.get (s.2++[(f.name,x)]) f.name=some x:=λx=>by
  rw [get_snoc,hnew];simp only;rw [Cj ((Xk _ _).2 rfl)]
 refine ⟨by rw [Qq]; exact h.len,by simp [h.klen],λp hp=>?_,λj hj x hx'=>?_,λj hj g hg=>?_,λj hj g hg hk n hm=>?_,λn v hv=>?_⟩
 ·rcases Qj.1 hp with q | q
  ·exact h.ok p q
  ·rw [Pj.1 q]; exact hx
 ·by_cases e:j=i
  ·subst e;rw [Zq (by rw [h.len]; exact hil)] at hx';rw [<- Dk hx']; exact hx
  ·rw [Fw (λq=>e q.symm)] at hx';rcases Qj.1 hj with q | q
   ·exact h.okv j q x hx'
   ·exact absurd (Pj.1 q) e
 ·by_cases e:j=i
  ·subst e;rw [hf] at hg;obtain rfl:=Dk hg;exact ⟨_,Zq (by rw [h.len]; exact hil),hhit _,oneV_congr λhk n hm=>hstay (hasks hk n hm)⟩
  ·rcases Qj.1 hj with q | q
   ·obtain ⟨x,h1,h2,h3⟩:=h.at_ j q g hg;exact ⟨x,by rw [Fw (λq=>e q.symm)]; exact h1,get_app h2,h3.trans (oneV_congr λhk n hm=>hstay (h.asks j q g hg hk n hm))⟩
   ·exact absurd (Pj.1 q) e
 ·rcases Qj.1 hj with q | q
  ·have:=h.asks j q g hg hk n hm
   rw [<- hstay this]; exact this
  ·rw [Pj.1 q,hf] at hg;obtain rfl:=Dk hg;rw [<- hstay (hasks hk n hm)]; exact hasks hk n hm
 ·rw [get_snoc] at hv
  cases hg:s.2.get n with
  | some u =>
   obtain ⟨j,hj,r⟩:=h.back n u hg;exact ⟨j,by simp [hj],r⟩
  | none =>
   rw [hg] at hv;simp only at hv
   by_cases e:(n == f.name)=true
   ·exact ⟨i,by simp,f,hf,((Xk _ _).1 e).symm⟩
   ·rw [Bj e] at hv; cases hv
structure Ordd (fs:List Fd) (ρ:List Int) (lv:Nat -> Nat) (os:List Nat):Prop where
 rank:Ranked (pW fs) ρ lv
 perm:os.Perm (List.range fs.length)
 rise:∀ (i j x y:Nat),i < j -> os[i]?=some x -> os[j]?=some y -> ρ.getD x 0 <= ρ.getD y 0
theorem jX {fs:List Fd} {ρ:List Int} {lv:Nat -> Nat} (hr:Ranked (pW fs) ρ lv) (h1:0 < fs.length):Ordd fs ρ lv (iX ρ fs.length):=⟨hr,(ordL_spec ρ fs.length h1).1,(ordL_spec ρ fs.length h1).2⟩
theorem qW (fs:List Fd):(pW fs).length=fs.length:=by unfold pW; rw [Ij]
theorem Ordd.len {fs:List Fd} {ρ:List Int} {lv:Nat -> Nat} {os:List Nat} (h:Ordd fs ρ lv os):os.length=fs.length:=by rw [h.perm.length_eq,List.length_range]
theorem Ordd.lt {fs:List Fd} {ρ:List Int} {lv:Nat -> Nat} {os:List Nat} (h:Ordd fs ρ lv os) {i:Nat} (hi:i∈os):i < fs.length:=Jk.1 (h.perm.mem_iff.1 hi)
theorem Ordd.ahead {fs:List Fd} {ρ:List Int} {lv:Nat -> Nat} {os:List Nat} (h:Ordd fs ρ lv os) {t i:Nat} (ht:os[t]?=some i):∀ j∈(pW fs).getD i [],j∈os.take t:=λj hj=>by
 have hi:=h.lt (Ej ht);obtain ⟨h1,-⟩:=h.rank.low i (by rw [qW]; exact hi) j hj;rw [qW] at h1;have h2:ρ.getD j 0 + 1 <= ρ.getD i 0:=by rw [h.rank.at_ i (by rw [qW]; exact hi)]; exact top_le hj
 obtain ⟨u,hu⟩:=Bq (h.perm.mem_iff.2 (Jk.2 h1));have hut:u < t:=by
  rcases (by omega:u < t\/u=t\/t < u) with q | q | q
  ·exact q
  ·subst q;rw [ht] at hu;obtain rfl:=Dk hu;omega
  ·have:=h.rise t u i j q ht hu
   omega
 exact Ej (i:=u) (by rw [List.getElem?_take_of_lt hut]; exact hu)
theorem run_inv {fs:List Fd} (hok:OkFs fs) {inp:Env} (hi:∀ p∈inp,p.2.known) {orc:List Aw} (ho:∀ p∈orc,OkV p.has) {ρ:List Int} {lv:Nat -> Nat} {os:List Nat} (h:Ordd fs ρ lv os):∀ t,t <= os.length -> RunI fs inp orc (os.take t) (runW fs inp orc (os.take t))
 | 0,_=>by
  refine ⟨by simp [runW],rfl,λp hp=>?_,λj hj=>?_,λj hj=>?_,λj hj=>?_,λn v hv=>?_⟩
  ·cases hp
  ·cases hj
  ·cases hj
  ·cases hj
  ·cases hv
 | t + 1,ht=>by
  obtain ⟨i,hti⟩:∃ i,os[t]?=some i:=⟨_,Gj (by omega)⟩;have hil:=h.lt (Ej hti);obtain ⟨f,hf⟩:∃ f,fs[i]?=some f:=⟨_,Gj hil⟩;have e:os.take (t + 1)=os.take t++[i]:=by rw [Ov,hti]; rfl
  have hnd:os.Nodup:=h.perm.nodup_iff.2 Dx;have hni:i ∉ os.take t:=λq=>by
   obtain ⟨u,hu⟩:=Bq q;have hut:u < t:=by
    rcases Iv u t with q | q
    ·exact q
    ·rw [Gv (by rw [Ck]; omega)] at hu; cases hu
   rw [List.getElem?_take_of_lt hut] at hu
   have:=(Bx (by omega) hnd).1 (hu.trans hti.symm)
   omega
  rw [e,runW_snoc];exact run_step hok hi ho (run_inv hok hi ho h t (by omega)) hf hni (h.ahead hti)
theorem all_sol {fs:List Fd} (hok:OkFs fs) {inp:Env} (hi:∀ p∈inp,p.2.known) {orc:List Aw} (ho:∀ p∈orc,OkV p.has) {ρ:List Int} {lv:Nat -> Nat} {os:List Nat} (h:Ordd fs ρ lv os):Sol fs inp orc (allW fs inp orc os) /\ ∀ x∈allW fs inp orc os,OkV x:=by
 have hI:=run_inv hok hi ho h os.length (Hj _);rw [Pk] at hI;have hin:∀ {i:Nat},i < fs.length -> i∈os:=λq=>h.perm.mem_iff.2 (Jk.2 q);refine ⟨⟨hI.len,λi f x hf hx=>?_⟩,λx hx=>?_⟩
 ·obtain ⟨y,h1,h2,h3⟩:=hI.at_ i (hin (Nj.1 hf).1) f hf;obtain rfl:x=y:=Dk (hx.symm.trans h1);refine h3.trans (oneV_congr λhk n hm=>?_);obtain ⟨j,g,g1,g2,-⟩:=refs_need hok hf hk hm;obtain ⟨z,e1,e2,-⟩:=hI.at_ j (hin (Nj.1 g1).1) g g1;rw [g2] at e2;rw [e2, <- g2];exact (fcs_get hok.nodup g1 e1).symm
 ·obtain ⟨i,hi⟩:=Bq hx;exact hI.okv i (hin (by rw [<- hI.len]; exact (Nj.1 hi).1)) x hi
structure Pol where
 t:Int
 b:Int
 c:Int
structure Pol.ok (p:Pol):Prop where
 t1:1 <= p.t
 t6:p.t <= 6
 b1:1 <= p.b
 bc:p.b <= p.c
 cm:p.c <= 1000
@[reducible] def Pol.val (p:Pol):Value:=.agg #[Vi p.t,Vi p.b,Vi p.c]
def gapE (p:Pol) (n:Int):Int:=if p.b * 2 ^ (n.toNat - 1) <= p.c then p.b * 2 ^ (n.toNat - 1) else p.c
structure Cl where
 st:Int
 id:Int
 tr:Int
 key:Vl
 has:Vl
 nx:Int
@[reducible] def clZ:Cl:=⟨0,0,0,zV,zV,0⟩
@[reducible] def Cl.cells (c:Cl):List Value:=[Vi c.st,Vi c.id,Vi c.tr,Vi c.key.k,Vi c.key.n,.string c.key.s,Vi c.has.k,Vi c.has.n,.string c.has.s,Vi c.nx]
abbrev fK (l:List Cl):List (List Value):=l.map Cl.cells
theorem clRows_set (l:List Cl) (i:Nat) (x:Cl):(fK l).set i x.cells=fK (l.set i x):=List.map_set.symm
theorem clRows_get {l:List Cl} {i:Nat} {x:Cl} (h:l[i]?=some x):(fK l)[i]?=some x.cells:=by rw [Oj,h]; rfl
structure ClBe (p:Pol) (c:Cl):Prop where
 s1:1 <= c.st
 s3:c.st <= 3
 i1:1 <= c.id
 i2:c.id <= 1073741824
 t1:1 <= c.tr
 t2:c.tr <= p.t
 n0:0 <= c.nx
 n1:c.nx <= 1073742824
 key:c.key.known
 ask:c.st=1 -> c.has=zV
 knw:c.st=2 -> c.has.known /\ c.nx=0
 giv:c.st=3 -> c.has=zV /\ c.nx=0 /\ c.tr=p.t
def ClOk (p:Pol) (c:Cl):Prop:=c=clZ\/ClBe p c
theorem ClOk.live {p:Pol} {c:Cl} (h:ClOk p c) (h0:c.st≠0):ClBe p c:=by
 rcases h with rfl | h
 ·exact absurd rfl h0
 ·exact h
theorem ClOk.idle {p:Pol} {c:Cl} (h:ClOk p c) (h0:c.st=0):c=clZ:=by
 rcases h with rfl | h
 ·rfl
 ·have:=h.s1; omega
def ansC (c:Cl):Vl:=if c.st=2 then c.has else if c.st=3 then ⟨5,14,⟨#[]⟩⟩ else pdV
def hZ (p:Pol) (id now:Int) (key:Vl) (c:Cl):Cl × Bool :=
 if key.k <= 3 then if c.st≠0 /\ eqB c.key key=true then (c,false) else (⟨1,id,1,key,zV,now + p.b⟩,true) else (clZ,false)
theorem jZ {p:Pol} {id now:Int} {key:Vl} {c:Cl} (h:¬ key.k <= 3):hZ p id now key c=(clZ,false):=by unfold hZ; rw [Bj h]
theorem kZ {p:Pol} {id now:Int} {key:Vl} {c:Cl} (h:key.k <= 3) (h0:c.st≠0) (e:eqB c.key key=true):hZ p id now key c=(c,false):=by unfold hZ; rw [Cj h,Cj ⟨h0,e⟩]
theorem iZ {p:Pol} {id now:Int} {key:Vl} {c:Cl} (h:key.k <= 3) (e:¬ (c.st≠0 /\ eqB c.key key=true)):hZ p id now key c=(⟨1,id,1,key,zV,now + p.b⟩,true):=by unfold hZ; rw [Cj h,Bj e]
theorem turn_twice {p:Pol} {id now id' now':Int} {key:Vl} {c:Cl}:hZ p id' now' key (hZ p id now key c).1=((hZ p id now key c).1,false):=by
 by_cases h:key.k <= 3
 ·by_cases e:c.st≠0 /\ eqB c.key key=true
  ·rw [kZ (id:=id) (now:=now) h e.1 e.2]; exact kZ h e.1 e.2
  ·rw [iZ (id:=id) (now:=now) h e]; exact kZ h (by simp) (eqB_iff.2 rfl)
 ·rw [jZ (id:=id) (now:=now) (c:=c) h]; exact jZ h
theorem turn_key {p:Pol} {id now:Int} {key:Vl} {c:Cl} (h:key.k <= 3):(hZ p id now key c).1.st≠0 /\ (hZ p id now key c).1.key=key:=by
 by_cases e:c.st≠0 /\ eqB c.key key=true
 ·rw [kZ h e.1 e.2]; exact ⟨e.1,eqB_iff.1 e.2⟩
 ·rw [iZ h e]; exact ⟨by simp,rfl⟩
theorem turn_ok {p:Pol} (hp:p.ok) {id now:Int} {key:Vl} {c:Cl} (hk:OkV key) (hc:ClOk p c) (i1:1 <= id) (i2:id <= 1073741824) (n0:0 <= now) (n1:now <= 1073741824):ClOk p (hZ p id now key c).1:=by
 by_cases h:key.k <= 3
 ·by_cases e:c.st≠0 /\ eqB c.key key=true
  ·rw [kZ h e.1 e.2]; exact hc
  ·rw [iZ h e];have kk:key.known:=by
    rcases hk with q | rfl | ⟨q,-⟩
    ·exact q
    ·exact absurd h (by decide)
    ·omega
   have:=hp.t1; have:=hp.b1; have:=hp.bc; have:=hp.cm
   exact .inr ⟨Tq 1,by show (1:Int) <= 3; decide,i1,i2,Tq 1,by show (1:Int) <= p.t; omega,by show 0 <= now + p.b; omega,by show now + p.b <= 1073742824; omega,kk,λ_=>rfl,λq=>absurd (show (1:Int)=2 from q) (by decide),λq=>absurd (show (1:Int)=3 from q) (by decide)⟩
 ·rw [jZ h]; exact .inl rfl
structure Lt where
 nm:ByteArray
 id:Int
 key:Vl
 ans:Vl
@[reducible] def Lt.cells (l:Lt):List Value:=[Vt l.nm,Vi l.id,Vi l.key.k,Vi l.key.n,.string l.key.s,Vi l.ans.k,Vi l.ans.n,.string l.ans.s]
abbrev gW (l:List Lt):List (List Value):=l.map Lt.cells
theorem ltRows_snoc (l:List Lt) (x:Lt):gW (l++[x])=gW l++[x.cells]:=by unfold gW; rw [Mk]; rfl
structure Sst where
 calls:List Cl
 vals:List Vl
 kn:Env
 last:Int
 out:List Lt
def aW (key:Vl) (c:Cl):Vl:=if c.st=0 then key else ansC c
def ltOf (nm:ByteArray) (c:Cl):Lt:=⟨nm,c.id,c.key,zV⟩
def uY (fs:List Fd) (p:Pol) (now:Int) (inp:Env) (s:Sst) (i:Nat):Sst:=match fs[i]? with
 | some f=>if f.kind=3 then
   ⟨s.calls.set i (hZ p (s.last + 1) now (mK s.kn f.src) (s.calls.getD i clZ)).1,s.vals.set i (aW (mK s.kn f.src) (hZ p (s.last + 1) now (mK s.kn f.src) (s.calls.getD i clZ)).1),
    s.kn++[(f.name,aW (mK s.kn f.src) (hZ p (s.last + 1) now (mK s.kn f.src) (s.calls.getD i clZ)).1)],
    if (hZ p (s.last + 1) now (mK s.kn f.src) (s.calls.getD i clZ)).2=true then s.last + 1 else s.last,
    if (hZ p (s.last + 1) now (mK s.kn f.src) (s.calls.getD i clZ)).2=true then s.out++[ltOf f.name (hZ p (s.last + 1) now (mK s.kn f.src) (s.calls.getD i clZ)).1] else s.out⟩
  else ⟨s.calls,s.vals.set i (yW f inp [] s.kn),s.kn++[(f.name,yW f inp [] s.kn)],s.last,s.out⟩
 | none=>s
def jY (fs:List Fd) (p:Pol) (now:Int) (inp:Env) (s:Sst) (os:List Nat):Sst:=os.foldl (uY fs p now inp) s
theorem runS_snoc (fs:List Fd) (p:Pol) (now:Int) (inp:Env) (s:Sst) (os:List Nat) (i:Nat):jY fs p now inp s (os++[i])=uY fs p now inp (jY fs p now inp s os) i:=by unfold jY; rw [Rw]; rfl
theorem runS_at (fs:List Fd) (p:Pol) (now:Int) (inp:Env) (s:Sst) (os:List Nat) (k i:Nat) (hi:os[k]?=some i):jY fs p now inp s (os.take (k + 1))=uY fs p now inp (jY fs p now inp s (os.take k)) i:=by
 rw [Ov,hi]; exact runS_snoc ..
theorem vY {fs:List Fd} {p:Pol} {now:Int} {inp:Env} {s:Sst} {i:Nat} {f:Fd} {c:Cl} {key:Vl} {r:Cl × Bool} (hf:fs[i]?=some f) (h3:f.kind=3) (hc:s.calls[i]?=some c) (hk:mK s.kn f.src=key) (hr:hZ p (s.last + 1) now key c=r) :
  uY fs p now inp s i=⟨s.calls.set i r.1,s.vals.set i (aW key r.1),s.kn++[(f.name,aW key r.1)],if r.2=true then s.last + 1 else s.last,if r.2=true then s.out++[ltOf f.name r.1] else s.out⟩:=by
 have e:s.calls.getD i clZ=c:=by rw [Uk,hc]; rfl
 unfold uY;rw [hf];simp only;rw [Cj h3,e,hk,hr]
theorem stepS_one {fs:List Fd} {p:Pol} {now:Int} {inp:Env} {s:Sst} {i:Nat} {f:Fd} (hf:fs[i]?=some f) (h3:f.kind≠3) :
  uY fs p now inp s i=⟨s.calls,s.vals.set i (yW f inp [] s.kn),s.kn++[(f.name,yW f inp [] s.kn)],s.last,s.out⟩:=by
 unfold uY;rw [hf];simp only;rw [Bj h3]
structure CallsOk (fs:List Fd) (p:Pol) (last:Int) (calls:List Cl):Prop where
 len:calls.length=fs.length
 at_:∀ (i:Nat) (f:Fd) (c:Cl),fs[i]?=some f -> calls[i]?=some c -> ClOk p c /\ (c.st≠0 -> f.kind=3 /\ c.id <= last) /\ (c.st=2 -> c.has.k=f.ty)
structure RunS (fs:List Fd) (p:Pol) (now:Int) (inp:Env) (s0:Sst) (os:List Nat) (s:Sst):Prop where
 calls:CallsOk fs p s.last s.calls
 vlen:s.vals.length=fs.length
 klen:s.kn.length=os.length
 ok:∀ q∈s.kn,OkV q.2
 lo:s0.last <= s.last
 hi:s.last <= s0.last + os.length
 olen:s.out.length <= s0.out.length + os.length
 same:∀ i,i ∉ os -> s.calls[i]?=s0.calls[i]?
theorem lkupV_ok {p:Pol} {key:Vl} {c:Cl} (hk:OkV key) (hc:ClOk p c):OkV (aW key c):=by
 unfold aW
 split
 ·exact hk
 ·rename_i h0;have hb:=hc.live h0;unfold ansC
  split
  ·rename_i h2; exact .inl (hb.knw h2).1
  ·split
   ·exact .inr (.inr ⟨rfl,by decide,by decide,rfl⟩)
   ·exact .inr (.inl rfl)
theorem set_at {α:Type} {l:List α} {i j:Nat} {a b:α} (h:(l.set i a)[j]?=some b):(j=i /\ b=a)\/(j≠i /\ l[j]?=some b):=by
 by_cases e:i=j
 ·subst e;rw [List.getElem?_set_self' ] at h;obtain ⟨x,-,rfl⟩:=Zw.1 h;exact .inl ⟨rfl,rfl⟩
 ·rw [Fw e] at h;exact .inr ⟨λq=>e q.symm,h⟩
theorem runS_inv {fs:List Fd} {p:Pol} {now:Int} {inp:Env} {s0:Sst} {os:List Nat} (hp:p.ok) (hok:OkFs fs) (ki:∀ q∈inp,q.2.known) (n0:0 <= now) (n1:now <= 1073741824) (h0:CallsOk fs p s0.last s0.calls) (v0:s0.vals.length=fs.length) (k0:s0.kn=[]) (l0:0 <= s0.last) (l1:s0.last + os.length <= 1073741824) (hlt:∀ i∈os,i < fs.length) :
  ∀ t,t <= os.length -> RunS fs p now inp s0 (os.take t) (jY fs p now inp s0 (os.take t))
 | 0,_=>⟨h0,v0,by show s0.kn.length=0; rw [k0]; rfl,λq hq=>(by rw [show (jY fs p now inp s0 (os.take 0)).kn=s0.kn from rfl,k0] at hq; cases hq),Tq _,(by show s0.last <= s0.last + ((os.take 0).length:Int); simp),Nat.le_add_right _ _,λ_ _=>rfl⟩
 | t + 1,ht=>by
  have I:=runS_inv hp hok ki n0 n1 h0 v0 k0 l0 l1 hlt t (by omega);obtain ⟨i,hti⟩:∃ i,os[t]?=some i:=⟨_,Gj (by omega)⟩;have hil:=hlt i (Ej hti);obtain ⟨f,hf⟩:∃ f,fs[i]?=some f:=⟨_,Gj hil⟩;have hF:=hok.each f (Ej hf);have e:os.take (t + 1)=os.take t++[i]:=by rw [Ov,hti]; rfl
  have hlen:(os.take t).length=t:=by rw [Ck]; omega
  rw [runS_at fs p now inp s0 os t i hti,e];generalize jY fs p now inp s0 (os.take t)=s at *;have hlo:=I.lo;have hhi:=I.hi;have hol:=I.olen;have hkl:=I.klen;rw [hlen] at hhi hol hkl;obtain ⟨c,hc⟩:∃ c,s.calls[i]?=some c:=⟨_,Gj (by rw [I.calls.len]; exact hil)⟩
  by_cases h3:f.kind=3
  ·have hkey:=evalE_ok (get_ok I.ok) _ f.src (Hj _) (hF.wf (by omega)).1;obtain ⟨r,hr⟩:∃ r,hZ p (s.last + 1) now (mK s.kn f.src) c=r:=⟨_,rfl⟩;obtain ⟨c1,c2,c3⟩:=I.calls.at_ i f c hf hc;have hro:ClOk p r.1:=by rw [<- hr]; exact turn_ok hp hkey c1 (by omega) (by omega) n0 n1
   have hrid:(r.1.st≠0 -> r.1.id <= (if r.2=true then s.last + 1 else s.last)) /\ (r.1.st=2 -> r.1.has.k=f.ty):=by
    rw [<- hr]
    by_cases hk:(mK s.kn f.src).k <= 3
    ·by_cases q:c.st≠0 /\ eqB c.key (mK s.kn f.src)=true
     ·rw [kZ hk q.1 q.2];exact ⟨λq=>(c2 q).2,c3⟩
     ·rw [iZ hk q];exact ⟨λ_=>Tq _,λq=>absurd (show (1:Int)=2 from q) (by decide)⟩
    ·rw [jZ hk];exact ⟨λq=>absurd rfl q,λq=>absurd (show (0:Int)=2 from q) (by decide)⟩
   rw [vY hf h3 hc rfl hr];refine ⟨⟨by rw [Qq]; exact I.calls.len,λj g d hg hd=>?_⟩,by rw [Qq]; exact I.vlen,?_,λq hq=>?_,?_,?_,?_,λj hj=>?_⟩
   ·rcases set_at hd with ⟨rfl,rfl⟩ | ⟨-,hd⟩
    ·rw [hf] at hg;obtain rfl:=Dk hg;exact ⟨hro,λq=>⟨h3,hrid.1 q⟩,hrid.2⟩
    ·obtain ⟨d1,d2,d3⟩:=I.calls.at_ j g d hg hd;refine ⟨d1,λq=>⟨(d2 q).1,?_⟩,d3⟩
     have:=(d2 q).2
     show d.id <= if r.2=true then s.last + 1 else s.last
     split <;> omega
   ·simp only [Bk,Sk,Fq]; omega
   ·rcases Qj.1 hq with q' | q'
    ·exact I.ok q q'
    ·rw [Pj.1 q']; exact lkupV_ok hkey hro
   ·show s0.last <= if r.2=true then s.last + 1 else s.last
    split <;> omega
   ·show (if r.2=true then s.last + 1 else s.last) <= s0.last + ((os.take t++[i]).length:Int);rw [Bk,hlen]
    split <;> (simp only [Sk,Fq]; omega)
   ·show (if r.2=true then s.out++[ltOf f.name r.1] else s.out).length <= _;rw [Bk,hlen]
    split <;> (simp only [Bk,Sk,Fq]; omega)
   ·have hj1:j ∉ os.take t:=λq=>hj (Ek _ q);have hj2:i≠j:=λq=>hj (Vj _ (by rw [q]; exact Pj.2 rfl));show (s.calls.set i r.1)[j]?=_;rw [Fw hj2];exact I.same j hj1
  ·have hv:=oneV_ok hF ki (orc:=[]) (λq hq=>by cases hq) I.ok;rw [stepS_one hf h3];refine ⟨I.calls,by rw [Qq]; exact I.vlen,?_,λq hq=>?_,hlo,?_,?_,λj hj=>I.same j (λq=>hj (Ek _ q))⟩
   ·simp only [Bk,Sk,Fq]; omega
   ·rcases Qj.1 hq with q' | q'
    ·exact I.ok q q'
    ·rw [Pj.1 q']; exact hv
   ·show s.last <= s0.last + ((os.take t++[i]).length:Int);rw [Bk,hlen]; simp only [Sk,Fq]; omega
   ·show s.out.length <= _;rw [Bk,hlen]; simp only [Sk,Fq]; omega
theorem step_keep (fs:List Fd) (p:Pol) (now:Int) (inp:Env) (s:Sst) {i j:Nat} (h:i≠j):(uY fs p now inp s i).calls[j]?=s.calls[j]? /\ (uY fs p now inp s i).vals[j]?=s.vals[j]?:=by
 unfold uY
 split
 ·split
  ·exact ⟨Fw h,Fw h⟩
  ·exact ⟨rfl,Fw h⟩
 ·exact ⟨rfl,rfl⟩
theorem run_keep (fs:List Fd) (p:Pol) (now:Int) (inp:Env) {j:Nat}:∀ (os:List Nat) (s:Sst),j ∉ os -> (jY fs p now inp s os).calls[j]?=s.calls[j]? /\ (jY fs p now inp s os).vals[j]?=s.vals[j]?
 | [],_,_=>⟨rfl,rfl⟩
 | i :: os,s,h=>by
  have h1:=run_keep fs p now inp os (uY fs p now inp s i) (λq=>h (Gk _ q));have h2:=step_keep fs p now inp s (i:=i) (j:=j) (λq=>h (by rw [q]; exact Zk ..));exact ⟨h1.1.trans h2.1,h1.2.trans h2.2⟩
theorem step_len (fs:List Fd) (p:Pol) (now:Int) (inp:Env) (s:Sst) (i:Nat):(uY fs p now inp s i).calls.length=s.calls.length /\ (uY fs p now inp s i).vals.length=s.vals.length:=by
 unfold uY
 split
 ·split
  ·exact ⟨Qq,Qq⟩
  ·exact ⟨rfl,Qq⟩
 ·exact ⟨rfl,rfl⟩
theorem run_len (fs:List Fd) (p:Pol) (now:Int) (inp:Env):∀ (os:List Nat) (s:Sst),(jY fs p now inp s os).calls.length=s.calls.length /\ (jY fs p now inp s os).vals.length=s.vals.length
 | [],_=>⟨rfl,rfl⟩
 | i :: os,s=>by
  have h1:=run_len fs p now inp os (uY fs p now inp s i);have h2:=step_len fs p now inp s i;exact ⟨h1.1.trans h2.1,h1.2.trans h2.2⟩
theorem run_final (fs:List Fd) (p:Pol) (now:Int) (inp:Env) (s:Sst) {os:List Nat} (hn:os.Nodup) {t i:Nat} (h:os[t]?=some i) :
  (jY fs p now inp s os).calls[i]?=(jY fs p now inp s (os.take (t + 1))).calls[i]? /\ (jY fs p now inp s os).vals[i]?=(jY fs p now inp s (os.take (t + 1))).vals[i]?:=by
 have e:jY fs p now inp s os=jY fs p now inp (jY fs p now inp s (os.take (t + 1))) (os.drop (t + 1)):=by
  unfold jY;rw [<- Rw,Mw]
 rw [e];refine run_keep fs p now inp _ _ λhm=>?_;obtain ⟨ht,hv⟩:=Nj.1 h;have hd:os=os.take (t + 1)++os.drop (t + 1):=(Mw _ _).symm;rw [hd] at hn;refine (Dq.1 hn).2.2 i ?_ i hm rfl;rw [Ov,h];exact Vj _ (Pj.2 rfl)
theorem set_same {α:Type} {l:List α} {i:Nat} {a:α} (h:l[i]?=some a):l.set i a=l:=by
 obtain ⟨h1,h2⟩:=Nj.1 h;rw [<- h2,List.set_getElem_self]
theorem runS_fix (fs:List Fd) (p:Pol) (now:Int) (inp:Env) (s:Sst) {os:List Nat} (hn:os.Nodup) (cl:s.calls.length=fs.length) (vl:s.vals.length=fs.length) (k0:s.kn=[]) (now' last':Int):∀ t,t <= os.length ->
  jY fs p now' inp ⟨(jY fs p now inp s os).calls,(jY fs p now inp s os).vals,[],last',[]⟩ (os.take t)=⟨(jY fs p now inp s os).calls,(jY fs p now inp s os).vals,(jY fs p now inp s (os.take t)).kn,last',[]⟩
 | 0,_=>by
  show (⟨_,_,[],last',[]⟩:Sst)=⟨_,_,s.kn,last',[]⟩;rw [k0]
 | t + 1,ht=>by
  have I:=runS_fix fs p now inp s hn cl vl k0 now' last' t (by omega);obtain ⟨i,hti⟩:∃ i,os[t]?=some i:=⟨_,Gj (by omega)⟩;obtain ⟨q1,q2⟩:=run_final fs p now inp s hn hti;obtain ⟨m1,m2⟩:=run_len fs p now inp (os.take t) s;rw [runS_at fs p now' inp _ os t i hti,I];rw [runS_at fs p now inp s os t i hti] at q1 q2 ⊢;generalize jY fs p now inp s os=G at *;generalize jY fs p now inp s (os.take t)=u at *
  cases hf:fs[i]? with
  | none =>
   have e:∀ n x,uY fs p n inp x i=x:=λn x=>by unfold uY; rw [hf]
   rw [e,e]
  | some f =>
   have hil:=(Nj.1 hf).1
   by_cases h3:f.kind=3
   ·obtain ⟨c,hc⟩:∃ c,u.calls[i]?=some c:=⟨_,Gj (by omega)⟩;have hs:=vY (inp:=inp) hf h3 hc rfl (p:=p) (now:=now) rfl;rw [hs] at q1 q2 ⊢;simp only at q1 q2 ⊢;rw [Zq (by omega)] at q1 q2;rw [vY (s:=⟨G.calls,G.vals,u.kn,last',[]⟩) hf h3 q1 rfl turn_twice,set_same q1,set_same q2]
    rfl
   ·have hs:=stepS_one (p:=p) (now:=now) (inp:=inp) (s:=u) hf h3;rw [hs] at q1 q2 ⊢;simp only at q1 q2 ⊢;rw [Zq (by omega)] at q2;rw [stepS_one (s:=⟨G.calls,G.vals,u.kn,last',[]⟩) hf h3,set_same q2]
theorem order_any (fs:List Fd) (fv:Value) (h:Vw) (hok:OkFs fs) (hfs:IsFds h fv fs) (ρ:List Int) (lv:Nat -> Nat) (hρ:Ranked (pW fs) ρ lv) (h1:1 <= fs.length) (h2:fs.length < 20) :
  C0 Tryz.prog 64 #[fv] h (λr h'=>∃ A c,r=.tuple #[.slice A fs.length c,Vi 0] /\ RS h' 1 (.slice A fs.length c) (oW (iX ρ fs.length))):=by
 have hnl:(pW fs).length=fs.length:=by unfold pW; rw [Ij]
 have hO:=λH q=>rankOf_any fs fv H hok q ρ lv hρ;have hρl:ρ.length=fs.length:=hρ.len.trans hnl;obtain ⟨-,A,c,rfl,-,-,-,-,-,-⟩:=bQ hfs;generalize hL:fs.length=n at *;have hlo:(oW (List.range n)).length=n:=by simp
 refine pQ Tryz.func64 λhbx hbad Q hQ=>?_;refine go0 9 [] [] ?_;refine kQ (λH sH=>hO _ (hfs.sees sH)) ?_; rintro _ W1 S2 ⟨b,rfl,hro⟩;refine go1 34 [.own,.b 0 0] [] ?_;intro b3;refine cV 3 1 ?_;refine yQ [0,1,0,1,1,1,1] [.block 0,.seq [1,1,1,1,1]] (λ(k:Nat) X=>∃ (W4:Vw) (v:Value),X W4 [(4,Vp b3),(19,Vi (n:Int)),(20,Vi (k:Int)),(7,v)] [.row v 3 1 (oW (List.range k)),.box b3 [Vs b n n]] [] /\ Sees W1 W4 /\ (k <= n)) (λk=>n - k) (0) (λX q=>⟨W1,(Vz),q _ _ _ _ ⟨rfl,by kernel_rfl⟩,Sees.refl _,Mj _⟩) ?_;rintro k a w ⟨W4,v,hJ,S5,hk⟩; refine dV hJ ?_; clear hJ a w;refine go0 6 [] [] ?_;rcases (by omega:k < n\/k=n) with hlt | hke
 ·skip;refine jV (t:=decide ((k:Int) < (n:Int))) (Jj (by omega)) ?_
  refine oV 14 [.fix] [] ?_;intro b6 W7 S8;refine goa0 9 [.ap 0 0 (oW (List.range k)) [[Vi (k:Int)]]] [(27,Vi (IntKind.i64.wrap ((k:Int) + 1)),Vi ((k:Int) + 1))] ?_ (ho:=(Aj (by simp; omega) (trivial))) (hc:=(Aj (jJ (by omega) (by omega)) (trivial)));intro v26 W9 S10;refine wQ [(4,Vp b3),(19,Vi (n:Int)),(7,sL v26),(20,Vi ((k:Int) + 1))] [.row (sL v26) 3 1 ((oW (List.range k))++[[Vi (k:Int)]]),.box b3 [Vs b n n]] [] ?_;exact iV (k + 1) (λX q=>⟨W9,sL v26,q _ _ _ _ (mY (by rw [List.range_succ,natRows_snoc])),(S5.trans (S8.trans S10)),by omega⟩)
 ·skip;rw [hke]
  refine tQ (t:=decide ((n:Int) < (n:Int))) (Kj (by omega)) ?_;refine go0 2 [] [] ?_;refine xQ ?_;refine go0 6 [] [] ?_;refine uQ 0 (v:=v) (e:=3) (kk:=1) (l:=oW (List.range n)) ?_; intro Av cv hE_v hc_v hm_v;rw [show (oW (List.range n)).length=n from by first | omega | (simp; done) | (simp; omega)] at hE_v hc_v;rw [hE_v];refine g_get (λa w hJ=>own_some (hJ.rowOwn (v:=.slice Av n cv) (e:=3) (kk:=1) (l:=oW (List.range n)) 0 (by kernel_rfl)) ((by rw [Ij,List.length_range]; omega))) ?_; rintro ⟨bV,rfl⟩;refine wQ [(7,Vs bV n cv),(28,Vs bV n cv),(29,.func (.func 112) #[] #[Vp b3])] [.row (Vs bV n cv) 3 1 (oW (List.range n)),.box b3 [Vs b n n]] [] ?_;refine g_callsetw 0 (g:=bV) (m:=n) (cap:=cv) (kk:=1) (e:=3) (l:=oW (List.range n)) (l':=oW (iX ρ n)) (λa w hJ hok=>sort_set (n:=n) (by omega) h2 ρ hρl b _ bV cv _ _ _ (hJ.j.boxQ (b:=b3) (cs:=[Vs b n n]) 1 (by kernel_rfl)) ((hro.sees (S5.trans hJ.j.sees))) (by simp [blk,Ent.blocks,Value.ownBlock,Z.is]) (by have:=hJ.j.nodup; simp [blk,Ent.blocks,Value.ownBlock,Z.is] at this; omega) hok) ?_;refine go0 10 [] [] ?_;refine vQ 0 (v:=Vs bV n cv) (e:=3) (kk:=1) (l:=oW (iX ρ n)) ?_; intro W11 S12 fo;refine hQ.to [Vs bV n cv,Vi 0] (λH sH=>?_);exact ⟨_,_,rfl,(fo.sees sH)⟩
theorem known_no (v:Vl) (h:Vw) (hk:¬ v.k <= 3) (h1:1 <= v.k):C0 Tryz.prog 60 #[v.val] h (λr _=>r=.bool false):=by
 refine pQ Tryz.func60 λhbx hbad Q hQ=>?_;refine go1 25 [.own,.b 0 0,.b 0 0] [(5,.bool (decide (v.k ≥ 1)),.bool true),(9,.bool (decide (v.k <= 3)),.bool false)] ?_ (hc:=(Aj (Dj Value.bool (Jj h1)) (Aj (Dj Value.bool (Kj hk)) (trivial))));intro b1;refine hQ.to [.bool false] (λH sH=>?_);exact rfl
theorem chk_deep {x:Ex} (h:chkE x=0):(szE x).2 <= 12:=by
 unfold chkE at h
 split at h
 ·cases h
 ·split at h
  ·cases h
  ·omega
theorem asked_no (l:List Aw) (A:Option Addr) (n c:Nat) (s:ByteArray) (key:Vl) (h:Vw) (h4:¬ key.k <= 3) (h1:1 <= key.k):C0 Tryz.prog 114 #[.slice A n c,.string s,.agg #[Vi key.k,Vi key.n,.string key.s]] h (λr _=>r=(askV l s key).val):=by
 have e:askV l s key=key:=by unfold askV; rw [Bj h4]
 rw [e];have hk:=λH=>known_no key H h4 h1;refine pQ Tryz.func114 λhbx hbad Q hQ=>?_;refine go2 23 [.own,.own,.b 1 0,.cl 60 #[.agg #[Vi key.k,Vi key.n,.string key.s]] (.bool false),.b 1 0,.b 0 0] [] ?_ (ho:=(Aj (λH sH=>hk _) (trivial)));intro b1 b2;refine hQ.to [.agg #[Vi key.k,Vi key.n,.string key.s]] (λH sH=>?_) (ix:=[0]);exact rfl
theorem asked_yes (l:List Aw) (sl:Value) (s:ByteArray) (key:Vl) (h:Vw) (hr:RS h 7 sl (anRows l)) (hl:l.length <= 1000000) (hk:key.known):C0 Tryz.prog 114 #[sl,.string s,.agg #[Vi key.k,Vi key.n,.string key.s]] h (λr _=>r=(askV l s key).val):=by
 have e:askV l s key=askL s key l:=by unfold askV; rw [Cj (known_kind hk).2]
 rw [e];have hkn:=c_kn key.k key.n key.s;obtain ⟨A,c,rfl,-,-,-⟩:=hr.form;rw [Ij] at *;generalize hL:l.length=n at *;refine pQ Tryz.func114 λhbx hbad Q hQ=>?_;refine go2 26 [.own,.own,.b 1 0,.cl 60 #[.agg #[Vi key.k,Vi key.n,.string key.s]] (.bool true)] [] ?_ (ho:=(Aj (λH sH=>hkn _ hk) (trivial)));intro b1 b2;refine yQ [0,1,0,1,1] [.block 0,.seq [1,1,1]] (λ(k:Nat) X=>∃ (W3:Vw) ,X W3 [(1,.string s),(5,Vp b1),(6,Vp b2),(13,.slice A n c),(14,Vi (n:Int)),(15,Vi (k:Int))] [.box b2 [Vi 0,Vi 0,Ve],.box b1 [Vi key.k,Vi key.n,.string key.s]] [] /\ Sees h W3 /\ (k <= n) /\ (askL s key (l.drop k)=askL s key l)) (λk=>n - k) (0) (λX q=>⟨h,q _ _ _ _ ⟨rfl,by kernel_rfl⟩,Sees.refl _,Mj _,rfl⟩) ?_;rintro k a w ⟨W3,hJ,S4,hkl,hv⟩; refine dV hJ ?_; clear hJ a w;refine go0 6 [] [] ?_;rcases (by omega:k < n\/k=n) with hlt | hke
 ·obtain ⟨p,hp⟩:∃ p,l[k]?=some p:=⟨_,Gj (by omega)⟩;have hrow:(anRows l)[k]?=some (anRow p):=by rw [Oj,hp]; rfl
  have hdr:l.drop k=p :: l.drop (k + 1):=by
   obtain ⟨h1,h2⟩:=Nj.1 hp;rw [Tv h1,h2]
  rw [hdr,askL] at hv;refine jV (t:=decide ((k:Int) < (n:Int))) (Jj (by omega)) ?_;refine go0 6 [] [] ?_;obtain ⟨b5,o6,rfl,-,c7⟩:=RS.row hr (hrow);refine qQ (c7.sees S4) ?_;refine go1 13 [.ix b5 o6 n c k,.f 0 0,.own,.b 0 0,.b 0 0] [] ?_ (ho:=(Aj (by first | omega | (simp; omega)) (trivial)));intro b8
  by_cases g:(p.nm.toList == s.toList)=true
  ·skip
   by_cases q:eqB p.key key=true
   ·have hh:p.hit s key=true:=by unfold Aw.hit; rw [g,q]; rfl
    rw [Cj hh] at hv;refine gV 23 (v:=.bool (p.nm.toList == s.toList)) (v':=.bool true) (Dj Value.bool g) ?_;refine go0 3 [.b 0 1,.b 2 0] [] ?_;refine eV (.bool true) (λw=>run_eqop (x:=(.tmp 25)) (y:=(.tmp 26)) (v:=p.key) (w:=key) (by kernel_rfl) (by kernel_rfl) (by kernel_rfl) (q)) ?_;refine go0 14 [.b 0 4,.b 1 0] [] ?_;refine xQ ?_;refine go0 2 [] [] ?_;refine hQ.to [.agg #[Vi p.has.k,Vi p.has.n,.string p.has.s]] (λH sH=>?_) (ix:=[1]);exact Dj Vl.val hv
   ·skip;have hh:¬ p.hit s key=true:=by unfold Aw.hit; rw [g]; exact q
    rw [Bj hh] at hv;refine gV 23 (v:=.bool (p.nm.toList == s.toList)) (v':=.bool true) (Dj Value.bool g) ?_;refine go0 3 [.b 0 1,.b 2 0] [] ?_;refine eV (.bool false) (λw=>run_eqop (x:=(.tmp 25)) (y:=(.tmp 26)) (v:=p.key) (w:=key) (by kernel_rfl) (by kernel_rfl) (by kernel_rfl) (Sq.2 q)) ?_;refine go0 11 [] [(31,Vi (IntKind.i64.wrap ((k:Int) + 1)),Vi ((k:Int) + 1))] ?_ (hc:=(Aj (jJ (by omega) (by omega)) (trivial)));exact iV (k + 1) (λX q=>⟨W3,q _ _ _ _ ⟨rfl,by kernel_rfl⟩,S4,by omega,hv⟩)
  ·skip;have hh:¬ p.hit s key=true:=by unfold Aw.hit; rw [Sq.2 g]; exact Cx
   rw [Bj hh] at hv;refine gV 23 (v:=.bool (p.nm.toList == s.toList)) (v':=.bool false) (Dj Value.bool (Sq.2 g)) ?_;refine go0 15 [] [(31,Vi (IntKind.i64.wrap ((k:Int) + 1)),Vi ((k:Int) + 1))] ?_ (hc:=(Aj (jJ (by omega) (by omega)) (trivial)));exact iV (k + 1) (λX q=>⟨W3,q _ _ _ _ ⟨rfl,by kernel_rfl⟩,S4,by omega,hv⟩)
 ·skip;have hd:l.drop k=[]:=Vv (by omega)
  rw [hd] at hv;refine tQ (t:=decide ((k:Int) < (n:Int))) (Kj (by omega)) ?_;refine go0 2 [] [] ?_;refine xQ ?_;refine go0 9 [.b 0 0] [] ?_;refine hQ.to [.agg #[Vi 4,Vi 0,Ve]] (λH sH=>?_) (ix:=[0]);exact Dj Vl.val hv
theorem asked_any (l:List Aw) (sl:Value) (s:ByteArray) (key:Vl) (h:Vw) (hr:RS h 7 sl (anRows l)) (hl:l.length <= 1000000) (hk:OkV key):C0 Tryz.prog 114 #[sl,.string s,.agg #[Vi key.k,Vi key.n,.string key.s]] h (λr _=>r=(askV l s key).val):=by
 by_cases g:key.k <= 3
 ·rcases hk with q | rfl | ⟨q,-⟩
  ·exact asked_yes l sl s key h hr hl q
  ·exact absurd g (by decide)
  ·omega
 ·obtain ⟨A,c,rfl,-,-,-⟩:=hr.form;exact asked_no l A _ c s key h g (ok_kinds hk).1
theorem one_inp (f:Fd) (n1 n2 n3 c1 c2 c3:Nat) (A1 A2 A3:Option Addr) (inp:Env) (si:Value) (h:Vw) (hi:RS h 7 si (wK inp)) (li:inp.length <= 1000000) (g:f.kind=1) :
  C0 Tryz.prog 65 #[.agg #[Vt f.name,Vi f.kind,Vi f.ty,Vi f.src.op,Vi f.src.k,Vi f.src.n,.string f.src.s,.string f.src.nm,.slice A1 n1 c1],si,.slice A2 n2 c2,.slice A3 n3 c3] h (λr _=>r=(tellV f.name f.ty inp).val):=by
 obtain ⟨A,c,rfl,-,-,-⟩:=hi.form;rw [Ij] at *;generalize hL:inp.length=n at *;refine pQ Tryz.func65 λhbx hbad Q hQ=>?_;refine go2 24 [.own,.own,.b 1 1] [(15,.bool (f.kind == 1),.bool true)] ?_ (hc:=(Aj (Dj Value.bool (Xj.2 g)) (trivial)));intro b1 b2;refine yQ [0,1,0,0,1,0,1] [.block 0,.seq [1,0,1,0,1],.seq [1,1]] (λ(k:Nat) X=>∃ (W3:Vw) ,X W3 [(4,Vp b1),(8,Vp b2),(16,.slice A n c),(17,Vi (n:Int)),(18,Vi (k:Int))] [.box b2 [Vi 0,Vi 0,Ve],.box b1 [Vt f.name,Vi f.kind,Vi f.ty,Vi f.src.op,Vi f.src.k,Vi f.src.n,.string f.src.s,.string f.src.nm,.slice A1 n1 c1]] [] /\ Sees h W3 /\ (k <= n) /\ (tellV f.name f.ty (inp.drop k)=tellV f.name f.ty inp)) (λk=>n - k) (0) (λX q=>⟨h,q _ _ _ _ ⟨rfl,by kernel_rfl⟩,Sees.refl _,Mj _,rfl⟩) ?_;rintro k a w ⟨W3,hJ,S4,hkl,hv⟩; refine dV hJ ?_; clear hJ a w;refine go0 6 [] [] ?_;rcases (by omega:k < n\/k=n) with hlt | hke
 ·obtain ⟨p,hp⟩:∃ p,inp[k]?=some p:=⟨_,Gj (by omega)⟩;have hrow:(wK inp)[k]?=some (fcRow p):=by rw [Oj,hp]; rfl
  have hdr:inp.drop k=p :: inp.drop (k + 1):=by
   obtain ⟨h1,h2⟩:=Nj.1 hp;rw [Tv h1,h2]
  rw [hdr,tellV] at hv;refine jV (t:=decide ((k:Int) < (n:Int))) (Jj (by omega)) ?_;refine go0 6 [] [] ?_;obtain ⟨b5,o6,rfl,-,c7⟩:=RS.row hi (hrow);refine qQ (c7.sees S4) ?_;refine go1 15 [.ix b5 o6 n c k,.f 0 0,.own,.b 0 0,.b 0 0,.b 2 0] [] ?_ (ho:=(Aj (by first | omega | (simp; omega)) (trivial)));intro b8
  by_cases q:(p.1.toList == f.name.toList)=true
  ·rw [Cj q] at hv;refine jV (t:=p.1.toList == f.name.toList) (q) ?_;refine go0 10 [.b 0 4,.b 1 0] [] ?_;refine xQ ?_;refine go0 3 [] [] ?_;refine hQ.to [.agg #[Vi p.2.k,Vi p.2.n,.string p.2.s]] (λH sH=>?_) (ix:=[1]);exact Dj Vl.val hv
  ·skip;rw [Bj q] at hv
   refine tQ (t:=p.1.toList == f.name.toList) (Sq.2 q) ?_;refine go0 7 [] [(29,Vi (IntKind.i64.wrap ((k:Int) + 1)),Vi ((k:Int) + 1))] ?_ (hc:=(Aj (jJ (by omega) (by omega)) (trivial)));exact iV (k + 1) (λX q=>⟨W3,q _ _ _ _ ⟨rfl,by kernel_rfl⟩,S4,by omega,hv⟩)
 ·skip;have hd:inp.drop k=[]:=Vv (by omega)
  rw [hd] at hv;refine tQ (t:=decide ((k:Int) < (n:Int))) (Kj (by omega)) ?_;refine go0 2 [] [] ?_;refine xQ ?_;refine go0 12 [.b 1 2,.b 0 0] [] ?_;refine hQ.to [.agg #[Vi f.ty,Vi 0,Ve]] (λH sH=>?_) (ix:=[0]);exact Dj Vl.val hv
theorem one_wf (f:Fd) (v:Value) (inp:Env) (si:Value) (orc:List Aw) (so:Value) (kn:Env) (sk:Value) (h:Vw) (hf:f.kind≠1 -> WfE f.src /\ (szE f.src).1 <= 60 /\ chkE f.src=0) (ha:IsArgs h f.src v) (hi:RS h 7 si (wK inp)) (ho:RS h 7 so (anRows orc)) (hk:RS h 7 sk (wK kn))
  (li:inp.length <= 1000) (lo:orc.length <= 1000) (lk:kn.length <= 1000) (okk:∀ p∈kn,OkV p.2) :
  C0 Tryz.prog 65 #[.agg #[Vt f.name,Vi f.kind,Vi f.ty,Vi f.src.op,Vi f.src.k,Vi f.src.n,.string f.src.s,.string f.src.nm,v],si,so,sk] h (λr _=>r=(yW f inp orc kn).val):=by
 obtain ⟨A1,n1,c1,rfl⟩:=ha.slice;obtain ⟨A2,c2,rfl,-,-,-⟩:=ho.form;obtain ⟨A3,c3,rfl,-,-,-⟩:=hk.form;rw [Ij] at *;rw [Ij] at *
 by_cases g:f.kind=1
 ·have e:yW f inp orc kn=tellV f.name f.ty inp:=by unfold yW; rw [Cj g]
  rw [e];exact one_inp f _ _ _ _ _ _ _ _ _ inp si h hi (by omega) g
 ·obtain ⟨w1,w2,w3⟩:=hf g;have w4:(szE f.src).2 <= 12:=chk_deep w3;have hE:=λH q1 q2=>eval_any f.src (.slice A1 n1 c1) kn (.slice A3 kn.length c3) H q1 w1 w2 w4 q2 okk lk;have hv:=evalE_ok (get_ok okk) _ f.src (Hj _) w1;have hA:=λH q=>asked_any orc (.slice A2 orc.length c2) f.name (mK kn f.src) H q (by omega) hv;obtain ⟨A,c,rfl,-,-,-⟩:=hi.form;rw [Ij] at *;generalize inp.length=n at *;have e:yW f inp orc kn=if f.kind=3 then askV orc f.name (mK kn f.src) else mK kn f.src:=by unfold yW; rw [Bj g]
  rw [e];generalize mK kn f.src=key at *;generalize askV orc f.name key=av at *;generalize orc.length=n2 at *;generalize kn.length=n3 at *
  by_cases g3:f.kind=3
  ·rw [Cj g3];refine pQ Tryz.func65 λhbx hbad Q hQ=>?_;refine go3 52 [.own,.own,.b 1 1,.b 1 3,.cl 58 #[.agg #[Vi f.src.op,Vi f.src.k,Vi f.src.n,.string f.src.s,.string f.src.nm,.slice A1 n1 c1],.slice A3 n3 c3] (.tuple #[.agg #[Vi key.k,Vi key.n,.string key.s],Vi 0]),.own,.b 0 0,.b 2 1,.b 2 0,.b 0 0,.cl 114 #[.slice A2 n2 c2,.string f.name,.agg #[Vi key.k,Vi key.n,.string key.s]] (.agg #[Vi av.k,Vi av.n,.string av.s]),.b 1 0] [(15,.bool (f.kind == 1),.bool false),(42,.bool (f.kind == 3),.bool true)] ?_ (ho:=(Aj (λH sH=>hE _ (ha.sees sH) (hk.sees sH)) (Aj (λH sH=>hA _ (ho.sees sH)) (trivial)))) (hc:=(Aj (Dj Value.bool (Lj.2 g)) (Aj (Dj Value.bool (Xj.2 g3)) (trivial))));intro b1 b2 b3;refine hQ.to [.agg #[Vi av.k,Vi av.n,.string av.s]] (λH sH=>?_) (ix:=[1]);exact rfl
  ·rw [Bj g3];refine pQ Tryz.func65 λhbx hbad Q hQ=>?_;refine go3 49 [.own,.own,.b 1 1,.b 1 3,.cl 58 #[.agg #[Vi f.src.op,Vi f.src.k,Vi f.src.n,.string f.src.s,.string f.src.nm,.slice A1 n1 c1],.slice A3 n3 c3] (.tuple #[.agg #[Vi key.k,Vi key.n,.string key.s],Vi 0]),.own,.b 0 0,.b 2 1,.b 0 0,.b 1 0] [(15,.bool (f.kind == 1),.bool false),(42,.bool (f.kind == 3),.bool false)] ?_ (ho:=(Aj (λH sH=>hE _ (ha.sees sH) (hk.sees sH)) (trivial))) (hc:=(Aj (Dj Value.bool (Lj.2 g)) (Aj (Dj Value.bool (Lj.2 g3)) (trivial))));intro b1 b2 b3;refine hQ.to [.agg #[Vi key.k,Vi key.n,.string key.s]] (λH sH=>?_) (ix:=[1]);exact rfl
theorem one_any (fs:List Fd) (f:Fd) (v:Value) (inp:Env) (si:Value) (orc:List Aw) (so:Value) (kn:Env) (sk:Value) (h:Vw) (hf:OkF fs f) (ha:IsArgs h f.src v) (hi:RS h 7 si (wK inp)) (ho:RS h 7 so (anRows orc)) (hk:RS h 7 sk (wK kn))
  (li:inp.length <= 1000) (lo:orc.length <= 1000) (lk:kn.length <= 1000) (okk:∀ p∈kn,OkV p.2) :
  C0 Tryz.prog 65 #[.agg #[Vt f.name,Vi f.kind,Vi f.ty,Vi f.src.op,Vi f.src.k,Vi f.src.n,.string f.src.s,.string f.src.nm,v],si,so,sk] h (λr _=>r=(yW f inp orc kn).val):=one_wf f v inp si orc so kn sk h hf.wf ha hi ho hk li lo lk okk
theorem form_okFm (l:List RawD):OkFm (gQ l) (rhoL (pW (gQ l).fields)) (lvF l):=⟨form_okFs l _ (form_nodup l) (λf=>Iff.rfl) (by have:=form_len l; have:=lW l; omega),form_okGs l,form_ranked l⟩
structure InpOk (fs:List Fd) (env:Env):Prop where
 known:∀ p∈env,p.2.known
 told:factsV fs [] env=0
 few:env.length <= fs.length
 once:(env.map (·.1)).Nodup
structure PathOk (l:List Int) (m:Nat):Prop where
 rise:l.Pairwise (· < ·)
 lo:∀ x∈l,0 <= x
 hi:∀ x∈l,x <= (m:Int)
def lackN (fs:List Fd) (va:List Vl) (l:List ByteArray):List ByteArray:=l.filter λs=>Bool.not (decide ((va.getD (cQ fs s).toNat zV).k <= 3))
theorem CRow.c0 {P:Program} {f:FuncId} {args:Array Value} {h:Vw} {e:TypeId} {k:Nat} {R:Value -> List (List Value) -> Prop} (hc:CRow P f args h e k R):C0 P f args h (λv h'=>∃ l u,v=sL u /\ RS h' k (sL u) l /\ R v l):=by
 intro a1 a2 a3 a4;refine (hc a1 a2 a3 a4).mono ?_;rintro e w' ⟨v,Bo,h1,h2,h3,h4,l,h5,h6⟩;obtain ⟨A,c,rfl,-,-⟩:=gY h5;exact ⟨_,Bo,h1,h2,h3,h4,l,.slice A l.length c,rfl,row_rs h5 (λb hb hm=>by have:=a4 b hm; have:=(h5.1.lt b hb).1; omega),h6⟩
def RSn (h:Vw) (k:Nat) (u:Value) (n:Nat) (l:List (List Value)):Prop:=sN u=n /\ RS h k (sL u) l
theorem RSn.sees {h h':Vw} {k n:Nat} {u:Value} {l:List (List Value)} (c:RSn h k u n l) (s:Sees h h'):RSn h' k u n l:=⟨c.1,c.2.sees s⟩
end Go.Proofs.YthgcgciceejicaaGreatDoor
