/-
  slices.SortStableFunc at places, by their ranks: a row of the caller's own, fewer than twenty. (Imports the seat's Ins text: wip/ins.sh.)
-/
import Derived.Test.YthgcgciceejicaaGreatDoorZF34
import Derived.Test.YthgcgciceejicaaGreatDoorZF38
import Derived.Test.YthgcgciceejicaaGreatDoorZF37
set_option maxHeartbeats 4000000
set_option maxRecDepth 100000
namespace Go.Proofs.YthgcgciceejicaaGreatDoor
open Go.RowKit Go.Sort Go.Shelf
set_option linter.unusedVariables false
theorem ordc_any {n:Nat} (ρ:List Int) (b bR x y:Nat) (hx:x < n) (hy:y < n) (w:World) (hR:w.cell? ⟨bR,0,none⟩=some (.slice (some ⟨b,0,none⟩) n n)) (hc:∀ i,i < n -> w.cell? ⟨b,i,none⟩=some (Vi (ρ.getD i 0))) :
  Calls Tryz.prog 112 #[Vi (x:Int),Vi (y:Int),.pointer (some ⟨bR,0,none⟩)] w λe w'=>e=.returned (Vi (cmpI (ρ.getD x 0) (ρ.getD y 0))) /\ ∃ q,w'=w.drewN q:=by
 have cx:=hc x hx;have cy:=hc y hy;clear hc;generalize ρ.getD x 0=rx at *;generalize ρ.getD y 0=ry at *;have x1:(x:Int) < (n:Int):=by omega
 have y1:(y:Int) < (n:Int):=by omega
 go_enter Tryz.func112,Tryz.ntmps112
 go_wp2_with fail
 go_quiet ((go_at_call 113; exact Calls.quiet_of_same ((cmp_int rx ry _).mono λ_ _ h=>⟨h.1,h.2.symm⟩)))
 go_wp2_with fail
 go_ret
 exact ⟨rfl,_,rfl⟩
abbrev Pl (n:Nat):={ k:Nat // k < n }
def encP {n:Nat} (k:Pl n):Value:=Vi (k.val:Int)
def cfP {n:Nat} (ρ:List Int) (x y:Pl n):Int:=cmpI (ρ.getD x.val 0) (ρ.getD y.val 0)
theorem cfP_lt {n:Nat} (ρ:List Int) (x y:Pl n):ltOf (cfP ρ) x y=decide (ρ.getD x.val 0 < ρ.getD y.val 0):=by
 unfold ltOf cfP cmpI;generalize ρ.getD x.val 0=a;generalize ρ.getD y.val 0=b
 by_cases h:a < b
 ·rw [Cj h,Kj h]; rfl
 ·rw [Bj h,Jj h]
  split <;> rfl
theorem cfP_swo {n:Nat} (ρ:List Int):SWO (ltOf (cfP (n:=n) ρ)) where
 irrefl x:=by rw [cfP_lt]; simp
 trans x y z h1 h2:=by
  rw [cfP_lt] at *;exact Kj (by have:=Uv h1; have:=Uv h2; omega)
 ntrans x y z h1 h2:=by
  rw [cfP_lt] at *;exact Jj (by have:=of_decide_eq_false h1; have:=of_decide_eq_false h2; omega)
def ordA (ρ:List Int) (n:Nat) (hn:0 < n) (d:Array (Pl n)):Array (Pl n):=letI:Inhabited (Pl n):=⟨⟨0,hn⟩⟩; insertionSort (ltOf (cfP ρ)) d 0 n
def HoldsP {n:Nat} (hn:0 < n) (w:World) (g:Nat) (d:Array (Pl n)):Prop:=letI:Inhabited (Pl n):=⟨⟨0,hn⟩⟩; Holds encP w g 0 d
def putP {n:Nat} (hn:0 < n) (w:World) (g:Nat) (d:Array (Pl n)):World:=letI:Inhabited (Pl n):=⟨⟨0,hn⟩⟩; putRow encP w g 0 d
theorem putRow_map {α:Type} [Inhabited α] (enc:α -> Value) (w:World) (b o:Nat) (d:Array α):putRow enc w b o d=putRow id w b o (d.map enc):=by
 unfold putRow;have e:putCells enc o d=putCells id o (d.map enc):=by
  funext c
  unfold putCells
  congr 1
  funext k x
  rw [Array.size_map]
  by_cases h:o <= k /\ k < o + d.size
  ·rw [Cj h,Cj h];have h1:k - o < d.size:=by omega
   rw [Dv d _ h1,Dv (d.map enc) _ (by rw [Array.size_map]; exact h1),Array.getElem_map]; rfl
  ·rw [Bj h,Bj h]
 rw [e]
theorem ins_any {n:Nat} (hn:0 < n) (hn20:n < 20) (ρ:List Int) (b bR g cap:Nat) (d:Array (Pl n)) (hd:d.size=n) (w:World) (hR:w.cell? ⟨bR,0,none⟩=some (.slice (some ⟨b,0,none⟩) n n)) (hc:∀ i,i < n -> w.cell? ⟨b,i,none⟩=some (Vi (ρ.getD i 0))) (hg1:bR≠g) (hg2:b≠g)
  (hH:HoldsP hn w g d) :
  Calls Tryz.prog 207 #[.slice (some ⟨g,0,none⟩) n cap,Vi 0,Vi (n:Int),.func (.func 112) #[] #[.pointer (some ⟨bR,0,none⟩)]] w λe w'=>e=.returned (.tuple #[]) /\ ∃ k,w'=(putP hn w g (ordA ρ n hn d)).drewN k:=by
 letI:Inhabited (Pl n):=⟨⟨0,hn⟩⟩
 have lR:=Cx w _ hR;have lb:=Cx w _ (hc 0 hn);have hcmp:CmpReads Tryz.prog 112 #[.pointer (some ⟨bR,0,none⟩)] (encP (n:=n)) (cfP ρ) g 0 d.size w:=by
  intro m os dk hdk x y;have e1:∀ a:Addr,a.block < w.heap.size -> a.block≠g -> (sortWorld encP w g 0 m dk os).cell? a=w.cell? a:=λa ha hag=>by
   unfold sortWorld;rw [cell?_grow _ _ _ (by rw [size_putRow]; exact ha),cell?_putRow_other _ _ _ _ _ _ (.inl hag)]
   rfl
  exact ordc_any ρ b bR x.val y.val x.2 y.2 _ ((e1 ⟨bR,0,none⟩ lR hg1).trans hR) (λi hi=>(e1 ⟨b,i,none⟩ lb hg2).trans (hc i hi))
 have:=Any.insertionSortCmpFunc_one Tryz.insInts encP (λ_=>rfl) (cfP ρ) 112 #[.pointer (some ⟨bR,0,none⟩)] g 0 cap 0 n d w (enters_of Tryz.func112 (by kernel_rfl) rfl) hcmp hH (Mj _) (by omega) (by omega)
 rw [hd] at this;exact this
theorem stable_any {n:Nat} (hn:0 < n) (hn20:n < 20) (ρ:List Int) (b bR g cap:Nat) (d:Array (Pl n)) (hd:d.size=n) (w:World) (hR:w.cell? ⟨bR,0,none⟩=some (.slice (some ⟨b,0,none⟩) n n)) (hc:∀ i,i < n -> w.cell? ⟨b,i,none⟩=some (Vi (ρ.getD i 0))) (hg1:bR≠g) (hg2:b≠g)
  (hH:HoldsP hn w g d) :
  Calls Tryz.prog 164 #[.slice (some ⟨g,0,none⟩) n cap,Vi (n:Int),.func (.func 112) #[] #[.pointer (some ⟨bR,0,none⟩)]] w λe w'=>e=.returned (.tuple #[]) /\ ∃ k,w'=(putP hn w g (ordA ρ n hn d)).drewN k:=by
 have HI:=ins_any hn hn20 ρ b bR g cap d hd w hR hc hg1 hg2 hH;have x1:(n:Int) < 20:=by omega
 clear hR hc hH;generalize putP hn w g (ordA ρ n hn d)=W at *;have HI:=Hj HI
 go_enter Tryz.func164,Tryz.ntmps164
 go_wp2_with fail
 go_loopw [7,8] (λa b wr=>a=Vi 0 /\ b=Vi 20 /\ wr=w) (λ_ _ _=>0)
 case atStart=>exact ⟨rfl,rfl,rfl⟩
 case round =>
  obtain ⟨rfl,rfl,rfl⟩:=hrel
  go_wp2_with fail
  with_reducible refine (HI.out).mono ?_
  rintro e w' ⟨rfl,k,rfl⟩
  go_wp2_with fail
  go_loopw [6] (λa wr=>a=Vi 20 /\ wr=W.drewN k) (λ_ _=>0)
  case atStart=>exact ⟨rfl,rfl⟩
  case round =>
   obtain ⟨rfl,rfl⟩:=hrel
   go_wp2_with fail
   go_end0
   exact ⟨rfl,k,rfl⟩
theorem sort_any {n:Nat} (hn:0 < n) (hn20:n < 20) (ρ:List Int) (b bR g cap:Nat) (d:Array (Pl n)) (hd:d.size=n) (w:World) (hR:w.cell? ⟨bR,0,none⟩=some (.slice (some ⟨b,0,none⟩) n n)) (hc:∀ i,i < n -> w.cell? ⟨b,i,none⟩=some (Vi (ρ.getD i 0))) (hg1:bR≠g) (hg2:b≠g)
  (hH:HoldsP hn w g d) :
  Calls Tryz.prog 111 #[.slice (some ⟨g,0,none⟩) n cap,.func (.func 112) #[] #[.pointer (some ⟨bR,0,none⟩)]] w λe w'=>e=.returned (.tuple #[]) /\ ∃ k,w'=(putP hn w g (ordA ρ n hn d)).drewN k:=by
 have HI:=stable_any hn hn20 ρ b bR g cap d hd w hR hc hg1 hg2 hH;clear hR hc hH;generalize putP hn w g (ordA ρ n hn d)=W at *;have HI:=Hj HI
 go_enter Tryz.func111,Tryz.ntmps111
 go_wp2_with fail
 with_reducible refine (HI.out).mono ?_
 rintro e w' ⟨rfl,k,rfl⟩
 go_wp2_with fail
 go_end0
 exact ⟨rfl,k,rfl⟩
theorem ordA_perm (ρ:List Int) (n:Nat) (hn:0 < n) (d:Array (Pl n)) (hd:d.size=n):(ordA ρ n hn d).toList.Perm d.toList /\ (ordA ρ n hn d).size=n /\ ∀ (i j:Nat) (x y:Pl n),i < j -> (ordA ρ n hn d)[i]?=some x -> (ordA ρ n hn d)[j]?=some y -> ρ.getD x.val 0 <= ρ.getD y.val 0:=by
 letI:Inhabited (Pl n):=⟨⟨0,hn⟩⟩
 obtain ⟨⟨h1,-,h2⟩,h3⟩:=insertionSort_holds (lt:=ltOf (cfP (n:=n) ρ)) (cfP_swo ρ) d 0 n (Mj _) (by omega);have e1:(ordA ρ n hn d)=insertionSort (ltOf (cfP ρ)) d 0 n:=rfl;have h1':(ordA ρ n hn d).size=n:=by rw [e1,h1,hd]
 have x1:(ordA ρ n hn d).extract 0 n=ordA ρ n hn d:=by have:=Array.extract_size (xs:=ordA ρ n hn d); rwa [h1'] at this
 have x2:d.extract 0 n=d:=by have:=Array.extract_size (xs:=d); rwa [hd] at this
 rw [<- e1,x1,x2] at h2;rw [<- e1] at h3;refine ⟨h2,h1',λi j x y hij hx hy=>?_⟩;obtain ⟨hi,rfl⟩:=Rk.1 hx;obtain ⟨hj,rfl⟩:=Rk.1 hy;have h4:=h3 i j (Mj _) hij (by omega);rw [Dv _ i hi,Dv _ j hj,cfP_lt] at h4
 have:=of_decide_eq_false h4
 omega
def mX (ρ:List Int) (n:Nat):List Nat:=if hn:0 < n then ((ordA ρ n hn (Array.ofFn (n:=n) λi=>⟨i.val,i.isLt⟩)).toList.map Subtype.val) else []
theorem ordL_spec (ρ:List Int) (n:Nat) (hn:0 < n):(mX ρ n).Perm (List.range n) /\ ∀ (i j x y:Nat),i < j -> (mX ρ n)[i]?=some x -> (mX ρ n)[j]?=some y -> ρ.getD x 0 <= ρ.getD y 0:=by
 obtain ⟨h1,h2,h3⟩:=ordA_perm ρ n hn (Array.ofFn (n:=n) λi=>⟨i.val,i.isLt⟩) (by simp);have e:mX ρ n=((ordA ρ n hn (Array.ofFn (n:=n) λi=>⟨i.val,i.isLt⟩)).toList.map Subtype.val):=by unfold mX; rw [dif_pos hn]
 rw [e];generalize ordA ρ n hn (Array.ofFn (n:=n) λi=>⟨i.val,i.isLt⟩)=D at *
 constructor
 ·refine (h1.map Subtype.val).trans (List.Perm.of_eq ?_);refine Sq λi=>?_;rw [Nj,Kv]
  by_cases hi:i < n
  ·rw [List.getElem?_range hi];simp [hi]
  ·rw [Cv (by simp; omega),Array.getElem?_eq_none (by simp; omega)]; rfl
 ·intro i j x y hij hx hy;rw [Nj,Pw] at hx hy;obtain ⟨a,ha,rfl⟩:=hx;obtain ⟨c,hc,rfl⟩:=hy;rw [Kv] at ha hc;exact h3 i j a c hij ha hc
abbrev CSetW (P:Program) (f:FuncId) (args:Array Value) (w:World) (base g m cap:Nat) (e:TypeId) (kk:Nat) (l':List (List Value)):Prop :=
 Calls P f args w λen w'=>en=.returned (.tuple #[]) /\ w.grownBy w' (some g) /\ w'.heap.size=w.heap.size /\ Ent.ok base w' (.row (.slice (some ⟨g,0,none⟩) m cap) e kk l')
section
variable {P:Program} {C:Fx} {E:List (Nat × Value)} {B:List Ent} {F:List Fac} {h:Vw} {a:Act} {w:World} {Q:Exit -> Act -> World -> Prop} {c0:Code} {p:List Nat} {n:Nat} {ks:List Kt}
theorem x_callsetw {f:FuncId} {args:Array Value} {e:TypeId} {g m cap kk:Nat} {l l':List (List Value)} (hK:K C E B F h a w) (d i:Nat) (hB:B[i]?=some (.row (.slice (some ⟨g,0,none⟩) m cap) e kk l)) (hc:Ent.ok C.base w (.row (.slice (some ⟨g,0,none⟩) m cap) e kk l) -> CSetW P f args w C.base g m cap e kk l')
  (hk:∀ w,aK P C E (kX c0 p) ((kX c0 p).toList.drop n) d w=[.b true,.r (.ok (.enter f args) w)])
  (k:∀ a w,K C ((d,.tuple #[]) :: E) (B.set i (.row (.slice (some ⟨g,0,none⟩) m cap) e kk l')) F h a w -> Goal P c0 Q (.ops p (n + 1)) ks a w):Goal P c0 Q (.ops p n) ks a w:=by
 obtain ⟨o,r,hl,hg,hd,hlt,hkn,hrun⟩:=bK hk;have hr:=mK hl;refine kJ hl (qQ hK.j.fits hg) (Nk rfl λKK hKK=>?_);unfold Oper.wp;have hrun':∀ w,(execOp (evD E) { o with guard:=none }).run P w=.ok (.enter f args) w:=λw=>by
  have:=hrun w
  unfold execOp at this ⊢;exact this
 rw [rY (o:={ o with guard:=none }) hK.j.fits hkn,hrun'];refine (hc (hK.j.ents _ (Ej hB))).mono ?_;rintro e' w' ⟨rfl,h1,h2,h3⟩;refine hKK _ _ ?_;rw [hr];exact k _ _ ⟨(hK.j.setRow hB h1 h2 h3).putd _ hd hlt,hK.f⟩
theorem g_callsetw {s:Z} {f:FuncId} {args:Array Value} {e:TypeId} {g m cap kk:Nat} {l l':List (List Value)} (i:Nat) (hc:∀ a w,K C s.E s.B s.F h a w -> Ent.ok C.base w (.row (.slice (some ⟨g,0,none⟩) m cap) e kk l) -> CSetW P f args w C.base g m cap e kk l')
  (k:Go P C c0 Q h ((s.nx c0 (.tuple #[])).cB i (.row (.slice (some ⟨g,0,none⟩) m cap) e kk l'))) (hB:s.B[i]?=some (.row (.slice (some ⟨g,0,none⟩) m cap) e kk l):=by kernel_rfl) (hk:s.callOk P C c0 f args:=by intro _; kernel_rfl):Go P C c0 Q h s :=
 mV (cK hk).1 λa w hK=>x_callsetw hK (s.d c0) i hB (hc a w hK) (cK hk).2 k.go
end
theorem natRows_flat (l:List Nat):(vW l).flatten=l.map λ(k:Nat)=>Value.int .i64 (k:Int):=by
 induction l with
 | nil=>rfl
 | cons a l ih=>show [Value.int .i64 (a:Int)]++(vW l).flatten=_; rw [ih]; rfl
theorem sort_set {n:Nat} (hn:0 < n) (hn20:n < 20) (ρ:List Int) (hρ:ρ.length=n) (b bR g cap base:Nat) (w:World) (bd:List Nat) (hR:Cells ⟨w,[]⟩ bR 0 [.slice (some ⟨b,0,none⟩) n n]) (hr:RS ⟨w,bd⟩ 1 (.slice (some ⟨b,0,none⟩) n n) (lY ρ)) (hgd:g∈bd) (hg1:bR≠g)
  (hok:Ent.ok base w (.row (.slice (some ⟨g,0,none⟩) n cap) 3 1 (vW (List.range n)))) :
  CSetW Tryz.prog 111 #[.slice (some ⟨g,0,none⟩) n cap,.func (.func 112) #[] #[.pointer (some ⟨bR,0,none⟩)]] w base g n cap 3 1 (vW (mX ρ n)):=by
 obtain ⟨k1,k2⟩:=hok;have hlen:(vW (List.range n)).length=n:=by simp
 have k1n:=k1;rw [hlen] at k1n;have hbx:=row_box k1n;have hgb:b≠g:=by
  rcases hr with ⟨A,c,e,-,-,-⟩ | ⟨b',off,c,e,-,-,-,hnb,-⟩
  ·simp only [Kk] at e; omega
  ·simp only [Kk,Yj,Addr.mk.injEq] at e;obtain ⟨⟨rfl,-,-⟩,-,-⟩:=e;intro q; rw [q] at hnb; exact hnb hgd
 have hc:∀ i,i < n -> w.cell? ⟨b,i,none⟩=some (Vi (ρ.getD i 0)):=λi hi=>by
  have hri:=rk_get (l:=ρ) (i:=i) (by omega);obtain ⟨b',off,e,-,hcs⟩:=hr.row hri;simp only [Yj,Addr.mk.injEq] at e;obtain ⟨rfl,rfl,-⟩:=e
  have:=hcs.lies 0 _ rfl
  simpa using this
 have hRc:w.cell? ⟨bR,0,none⟩=some (.slice (some ⟨b,0,none⟩) n n):=by simpa using hR.lies 0 _ rfl
 have hD:(Array.ofFn (n:=n) λi=>(⟨i.val,i.isLt⟩:Pl n)).size=n:=by simp
 have hH:HoldsP hn w g (Array.ofFn (n:=n) λi=>⟨i.val,i.isLt⟩):=by
  letI:Inhabited (Pl n):=⟨⟨0,hn⟩⟩
  intro j hj;rw [hD] at hj;refine ⟨?_,hbx.free _⟩
  have:=hbx.cells j (Vi (j:Int)) (by rw [natRows_flat,Nj,List.getElem?_range hj]; rfl)
  rw [Jq,this,Dv _ j (by rw [hD]; exact hj)];simp [encP]
 refine Calls.mono (sort_any hn hn20 ρ b bR g cap _ hD w hRc hc hg1 hgb hH) ?_;rintro e w' ⟨rfl,k,rfl⟩;have hO:(ordA ρ n hn (Array.ofFn (n:=n) λi=>⟨i.val,i.isLt⟩)).size=n:=(ordA_perm ρ n hn _ hD).2.1;have hvs:((ordA ρ n hn (Array.ofFn (n:=n) λi=>⟨i.val,i.isLt⟩)).map encP)=((vW (mX ρ n)).flatten).toArray:=by
  rw [natRows_flat];unfold mX;rw [dif_pos hn,Iv]
  apply Array.ext'
  simp [encP,Function.comp_def]
 have hll:(vW (mX ρ n)).flatten.length=n:=by
  have:=Dj Array.size hvs
  rw [Array.size_map,hO,Pq] at this;exact this.symm
 have hl0:(vW (List.range n)).flatten.length=n:=by rw [natRows_flat]; simp
 have hw:(putP hn w g (ordA ρ n hn (Array.ofFn (n:=n) λi=>⟨i.val,i.isLt⟩))).drewN k=(Go.Sort.ahead w k).setCells g 0 (vW (mX ρ n)).flatten:=by
  letI:Inhabited (Pl n):=⟨⟨0,hn⟩⟩
  have h2:Holds id (Go.Sort.ahead w k) g 0 (vW (List.range n)).flatten.toArray:=λj hj=>by
   have hj:j < (vW (List.range n)).flatten.length:=by simpa using hj
   refine ⟨?_,hbx.free _⟩;rw [Jq];show w.cell? ⟨g,j,none⟩=_;rw [hbx.cells j _ (Fj hj),Dv _ _ (by simpa using hj)]; simp
  have:=setCells_putRow (Go.Sort.ahead w k) g 0 (vW (mX ρ n)).flatten 0 (vW (List.range n)).flatten.toArray (by rw [Pq,hll,hl0]; omega)
  rw [putRow_self id _ g 0 _ h2,setMany_all _ _ (by rw [Pq,hll,hl0])] at this;rw [Nat.add_zero] at this;rw [this];show (putRow encP w g 0 _).drewN k=_;rw [putRow_map,hvs]
  rfl
 rw [hw];have k1':(Go.Sort.ahead w k).ownsRow base 3 1 (.slice (some ⟨g,0,none⟩) n cap) n (vW (List.range n)).flatten:=k1n;obtain ⟨q1,q2⟩:=oY (vW (mX ρ n)).flatten 0 (vW (List.range n)).flatten (Go.Sort.ahead w k) k1' (by omega);have e:yX (vW (List.range n)).flatten 0 (vW (mX ρ n)).flatten=(vW (mX ρ n)).flatten:=by
  unfold yX;rw [Jq,hll,Kw (by omega)]; simp
 rw [e] at q1;have hol:(vW (mX ρ n)).length=(vW (List.range n)).length:=by
  rw [natRows_flat,Gj] at hll;rw [Gj,hll,hlen]
 refine ⟨rfl,⟨q2.os,q2.tape,q2.output,q2.size,q2.block⟩,xY _ _ _ _,?_,λr hr=>by obtain ⟨x,-,rfl⟩:=Rj.1 hr; rfl⟩;rw [hol,hlen]; exact q1
open Go.RowKit
abbrev pdV:Vl:=⟨4,0,⟨#[]⟩⟩
structure Aw where
 nm:ByteArray
 key:Vl
 has:Vl
@[reducible] def anRow (p:Aw):List Value:=[Vt p.nm,Vi p.key.k,Vi p.key.n,.string p.key.s,Vi p.has.k,Vi p.has.n,.string p.has.s]
abbrev qJ (l:List Aw):List (List Value):=l.map anRow
def Aw.hit (p:Aw) (s:ByteArray) (key:Vl):Bool:=p.nm.toList == s.toList && eqB p.key key
def askL (s:ByteArray) (key:Vl):List Aw -> Vl
 | []=>pdV
 | p :: l=>if p.hit s key=true then p.has else askL s key l
def askV (l:List Aw) (s:ByteArray) (key:Vl):Vl:=if key.k <= 3 then askL s key l else key
def tellV (s:ByteArray) (t:Int):Env -> Vl
 | []=>⟨t,0,⟨#[]⟩⟩
 | p :: l=>if (p.1.toList == s.toList)=true then p.2 else tellV s t l
def oneV (f:Fd) (inp:Env) (orc:List Aw) (kn:Env):Vl :=
 if f.kind=1 then tellV f.name f.ty inp else if f.kind=3 then askV orc f.name (oK kn f.src) else oK kn f.src
def stepW (fs:List Fd) (inp:Env) (orc:List Aw) (s:List Vl × Env) (i:Nat):List Vl × Env:=match fs[i]? with
 | some f=>(s.1.set i (oneV f inp orc s.2),s.2++[(f.name,oneV f inp orc s.2)])
 | none=>s
def runW (fs:List Fd) (inp:Env) (orc:List Aw) (os:List Nat):List Vl × Env:=os.foldl (stepW fs inp orc) (List.replicate fs.length zV,[])
theorem runW_snoc (fs:List Fd) (inp:Env) (orc:List Aw) (os:List Nat) (i:Nat):runW fs inp orc (os++[i])=stepW fs inp orc (runW fs inp orc os) i:=by unfold runW; rw [List.foldl_append]; rfl
theorem stepW_at {fs:List Fd} {i:Nat} {f:Fd} (hf:fs[i]?=some f) (inp:Env) (orc:List Aw) (s:List Vl × Env):stepW fs inp orc s i=(s.1.set i (oneV f inp orc s.2),s.2++[(f.name,oneV f inp orc s.2)]):=by unfold stepW; rw [hf]
theorem run_at (fs:List Fd) (inp:Env) (orc:List Aw) (os:List Nat) (k i:Nat) (hi:os[k]?=some i) (g:Fd) (hg:fs[i]?=some g):runW fs inp orc (os.take (k + 1))=((runW fs inp orc (os.take k)).1.set i (oneV g inp orc (runW fs inp orc (os.take k)).2),(runW fs inp orc (os.take k)).2++[(g.name,oneV g inp orc (runW fs inp orc (os.take k)).2)]):=by
 rw [Jw,hi];show runW fs inp orc (os.take k++[i])=_;rw [runW_snoc,stepW_at hg]
def allW (fs:List Fd) (inp:Env) (orc:List Aw) (os:List Nat):List Vl:=(runW fs inp orc os).1
def fcs:List Fd -> List Vl -> Env
 | f :: fs,v :: vs=>(f.name,v) :: fcs fs vs
 | _,_=>[]
theorem fcs_len:∀ {fs:List Fd} {v:List Vl},v.length=fs.length -> (fcs fs v).length=fs.length
 | [],[],_=>rfl
 | [],_ :: _,h=>by simp at h
 | _ :: _,[],h=>by simp at h
 | f :: fs,v :: vs,h=>by show (fcs fs vs).length + 1=fs.length + 1; rw [fcs_len (by simpa using h)]
theorem fcs_get:∀ {fs:List Fd} {v:List Vl} {i:Nat} {f:Fd} {x:Vl},(fs.map (λf:Fd=>f.name)).Nodup -> fs[i]?=some f -> v[i]?=some x -> (fcs fs v).get f.name=some x
 | [],_,_,_,_,_,h,_=>by simp at h
 | _ :: _,[],_,_,_,_,_,h=>by simp at h
 | g :: fs,u :: vs,0,f,x,_,h1,h2=>by
  simp only [List.getElem?_cons_zero,Yj] at h1 h2;subst h1 h2;exact env_hit _ _ _
 | g :: fs,u :: vs,i + 1,f,x,hd,h1,h2=>by
  rw [Gk,Uq] at hd;have h1:fs[i]?=some f:=by simpa using h1
  show Env.get ((g.name,u) :: fcs fs vs) f.name=some x;rw [env_miss _ _ λe=>hd.1 (Rj.2 ⟨f,Ej h1,e⟩)];exact fcs_get hd.2 h1 (by simpa using h2)
structure Sol (fs:List Fd) (inp:Env) (orc:List Aw) (v:List Vl):Prop where
 len:v.length=fs.length
 at_:∀ (i:Nat) (f:Fd) (x:Vl),fs[i]?=some f -> v[i]?=some x -> x=oneV f inp orc (fcs fs v)
theorem oneV_congr {f:Fd} {inp:Env} {orc:List Aw} {e1 e2:Env} (h:f.kind≠1 -> ∀ s∈gY f.src,e1.get s=e2.get s):oneV f inp orc e1=oneV f inp orc e2:=by
 unfold oneV
 by_cases h1:f.kind=1
 ·rw [Cj h1,Cj h1]
 ·rw [Bj h1,Bj h1,eval_local (h h1)]
theorem refs_typed {f:ByteArray -> Option Int} {x:Ex}:WfE x -> (tyE f x).2=0 -> ∀ s∈gY x,(f s).isSome=true:=by
 refine ex_ind (p:=λx=>WfE x -> (tyE f x).2=0 -> ∀ s∈gY x,(f s).isSome=true) (λx ih hw ht s hs=>?_) x;rw [iY] at hs;rw [tyE_eq] at ht
 by_cases h2:x.op=2
 ·rw [Cj h2,ref_args hw h2] at hs;have hs:s=x.nm:=by
   rcases Sj.1 hs with q | q
   ·exact Oj.1 q
   ·rw [jY] at q; cases q
  rw [Bj (by omega),Cj h2] at ht;rw [hs]
  cases hf:f x.nm with
  | some t=>rfl
  | none=>rw [hf] at ht; exact absurd ht (by decide)
 ·rw [Bj h2,Nv,mem_refsL] at hs;obtain ⟨y,hy,hs⟩:=hs
  by_cases h1:x.op=1
  ·have:x.args=[]:=by
    rcases hw.top with ⟨-,-,-,-,h⟩ | ⟨h,-⟩ | ⟨h,-⟩
    ·exact Qq.1 h
    ·omega
    ·omega
   rw [this] at hy; cases hy
  ·rw [Bj h1,Bj h2] at ht
   by_cases hL:(tyL f x.args).2=0
   ·obtain ⟨-,hg⟩:=tyL_get (f:=f) (l:=x.args) (ts:=(tyL f x.args).1) (Prod.ext rfl hL);obtain ⟨i,hi⟩:=Iq hy;obtain ⟨t,-,e⟩:=hg i y hi;exact ih y hy (hw.list.get hy) (by rw [e]) s hs
   ·rw [Bj hL] at ht;exact absurd ht hL
theorem tyF_some {fs:List Fd} {s:ByteArray} (h:(tyF fs s).isSome=true):∃ (i:Nat) (f:Fd),fs[i]?=some f /\ f.name=s:=by
 induction fs with
 | nil=>cases h
 | cons g l ih =>
  rw [tyF] at h
  by_cases e:(s == g.name)=true
  ·exact ⟨0,g,rfl,((Wk _ _).1 e).symm⟩
  ·rw [Bj e] at h;obtain ⟨i,f,h1,h2⟩:=ih h;exact ⟨i + 1,f,by simpa using h1,h2⟩
theorem refs_need {fs:List Fd} (hok:OkFs fs) {i:Nat} {f:Fd} (hf:fs[i]?=some f) (hk:f.kind≠1) {s:ByteArray} (hs:s∈gY f.src):∃ (j:Nat) (g:Fd),fs[j]?=some g /\ g.name=s /\ j∈(wW fs).getD i []:=by
 have hF:=hok.each f (Ej hf);have ht:(tyE (tyF fs) f.src).2=0:=by
  have k1:=hF.k1;have k3:=hF.k3;rcases (by omega:f.kind=2\/f.kind=3) with q | q
  ·rw [hF.form q]
  ·obtain ⟨t,-,-,e⟩:=hF.look q;rw [e]
 obtain ⟨j,g,h1,h2⟩:=tyF_some (refs_typed (hF.wf hk).1 ht s hs);refine ⟨j,g,h1,h2,?_⟩;have hfd:=kQ hok.nodup h1;rw [h2] at hfd
 have:(wW fs).getD i []=needE fs f:=by unfold wW; rw [Vk,Nj,hf]; rfl
 rw [this];unfold needE;rw [Bj hk];refine Rj.2 ⟨s,mem_namesE.2 hs,?_⟩;unfold plc;rw [hfd]; rfl
structure AnOk (fs:List Fd) (p:Aw):Prop where
 place:∃ (i:Nat) (f:Fd) (t:Int),fs[i]?=some f /\ f.name=p.nm /\ f.kind=3 /\ tyE (tyF fs) f.src=(t,0) /\ p.key.k=t /\ p.has.k=f.ty
 key:p.key.known
 has:p.has.known
structure OkOrc (fs:List Fd) (orc:List Aw):Prop where
 each:∀ p∈orc,AnOk fs p
 once:orc.Pairwise (λp q=>p.hit q.nm q.key=false)
theorem OkOrc.has {fs:List Fd} {orc:List Aw} (h:OkOrc fs orc):∀ p∈orc,OkV p.has:=λp hp=>.inl (h.each p hp).has
theorem OkOrc.nil (fs:List Fd):OkOrc fs []:=⟨λp hp=>(by cases hp),List.Pairwise.nil⟩
abbrev kZ (l:List Vl):List (List Value):=l.map Vl.cells
theorem vlRows_set (l:List Vl) (i:Nat) (x:Vl):(kZ l).set i x.cells=kZ (l.set i x):=List.map_set.symm
theorem vlRows_get {l:List Vl} {i:Nat} {x:Vl} (h:l[i]?=some x):(kZ l)[i]?=some x.cells:=by rw [Nj,h]; rfl
theorem ask_ok {orc:List Aw} (h:∀ p∈orc,OkV p.has) (s:ByteArray) (key:Vl):OkV (askL s key orc):=by
 induction orc with
 | nil=>exact .inr (.inl rfl)
 | cons p l ih =>
  rw [askL]
  split
  ·exact h p (by simp)
  ·exact ih λq hq=>h q (by simp [hq])
theorem tell_ok {inp:Env} (h:∀ p∈inp,p.2.known) (s:ByteArray) {t:Int} (h1:1 <= t) (h3:t <= 3):(tellV s t inp).known:=by
 induction inp with
 | nil =>
  show oJ t 0 ⟨#[]⟩;rcases (by omega:t=1\/t=2\/t=3) with e | e | e
  ·exact .inl ⟨e,⟨by decide,by decide⟩,rfl⟩
  ·exact .inr (.inl ⟨e,.inl rfl,rfl⟩)
  ·exact .inr (.inr ⟨e,rfl,by decide,λi hi=>absurd hi (Vv i)⟩)
 | cons p l ih =>
  rw [tellV]
  split
  ·exact h p (by simp)
  ·exact ih λq hq=>h q (by simp [hq])
theorem get_ok {l:Env} (h:∀ p∈l,OkV p.2):EnvOk l:=λ_ _ hs=>h _ (get_mem hs)
theorem oneV_ok {fs:List Fd} {f:Fd} (hf:OkF fs f) {inp:Env} (hi:∀ p∈inp,p.2.known) {orc:List Aw} (ho:∀ p∈orc,OkV p.has) {kn:Env} (hk:∀ p∈kn,OkV p.2):OkV (oneV f inp orc kn):=by
 unfold oneV
 by_cases h1:f.kind=1
 ·rw [Cj h1]; exact .inl (tell_ok hi _ hf.t1 hf.t3)
 ·have he:=evalE_ok (get_ok hk) _ f.src (Ij _) (hf.wf h1).1;rw [Bj h1]
  split
  ·unfold askV
   split
   ·exact ask_ok ho _ _
   ·exact he
  ·exact he
structure RunI (fs:List Fd) (inp:Env) (orc:List Aw) (os:List Nat) (s:List Vl × Env):Prop where
 len:s.1.length=fs.length
 klen:s.2.length=os.length
 ok:∀ p∈s.2,OkV p.2
 okv:∀ i∈os,∀ x,s.1[i]?=some x -> OkV x
 at_:∀ i∈os,∀ f,fs[i]?=some f -> ∃ x,s.1[i]?=some x /\ s.2.get f.name=some x /\ x=oneV f inp orc s.2
 asks:∀ i∈os,∀ f,fs[i]?=some f -> f.kind≠1 -> ∀ n∈gY f.src,(s.2.get n).isSome=true
 back:∀ n v,s.2.get n=some v -> ∃ i∈os,∃ f,fs[i]?=some f /\ f.name=n
theorem get_app {s:ByteArray} {l m:Env} {v:Vl} (h:l.get s=some v):Env.get (l++m) s=some v:=by
 induction l with
 | nil=>cases h
 | cons p l ih =>
  obtain ⟨k,u⟩:=p;show Env.get ((k,u) :: (l++m)) s=some v;rw [Env.get] at h ⊢
  split at h
  ·rw [Cj (by assumption)]; exact h
  ·rw [Bj (by assumption)]; exact ih h
theorem run_step {fs:List Fd} (hok:OkFs fs) {inp:Env} (hi:∀ p∈inp,p.2.known) {orc:List Aw} (ho:∀ p∈orc,OkV p.has) {os:List Nat} {s:List Vl × Env} (h:RunI fs inp orc os s) {i:Nat} {f:Fd} (hf:fs[i]?=some f) (hn:i ∉ os)
  (hr:∀ j∈(wW fs).getD i [],j∈os):RunI fs inp orc (os++[i]) (stepW fs inp orc s i):=by
 have hil:i < fs.length:=(Qj.1 hf).1;have hnew:s.2.get f.name=none:=by
  cases hg:s.2.get f.name with
  | none=>rfl
  | some v =>
   obtain ⟨j,hj,g,h1,h2⟩:=h.back _ _ hg;have e1:=kQ hok.nodup h1;have e2:=kQ hok.nodup hf;rw [h2,e2] at e1;have e1:i=j:=by omega
   rw [e1] at hn;exact absurd hj hn
 have hasks:f.kind≠1 -> ∀ n∈gY f.src,(s.2.get n).isSome=true:=λhk n hm=>by
  obtain ⟨j,g,h1,h2,h3⟩:=refs_need hok hf hk hm;obtain ⟨x,-,q,-⟩:=h.at_ j (hr j h3) g h1;rw [h2] at q;rw [q]; rfl
 have hx:=oneV_ok (hok.each f (Ej hf)) hi ho h.ok;rw [stepW_at hf];have hstay:∀ {n:ByteArray} {p:ByteArray × Vl},(s.2.get n).isSome=true -> s.2.get n=Env.get (s.2++[p]) n:=λ{n p} q=>by
  obtain ⟨v,hv⟩:=Xw.1 q;rw [hv,get_app hv]
 have hhit:∀ x:Vl,Env.get (s.2++[(f.name,x)]) f.name=some x:=λx=>by
  rw [get_snoc,hnew];simp only;rw [Cj ((Wk _ _).2 rfl)]
 refine ⟨by rw [Wq]; exact h.len,by simp [h.klen],λp hp=>?_,λj hj x hx'=>?_,λj hj g hg=>?_,λj hj g hg hk n hm=>?_,λn v hv=>?_⟩
 ·rcases Sj.1 hp with q | q
  ·exact h.ok p q
  ·rw [Oj.1 q]; exact hx
 ·by_cases e:j=i
  ·subst e;rw [Hw (by rw [h.len]; exact hil)] at hx';rw [<- Zk hx']; exact hx
  ·rw [Sw (λq=>e q.symm)] at hx';rcases Sj.1 hj with q | q
   ·exact h.okv j q x hx'
   ·exact absurd (Oj.1 q) e
 ·by_cases e:j=i
  ·subst e;rw [hf] at hg;obtain rfl:=Zk hg;exact ⟨_,Hw (by rw [h.len]; exact hil),hhit _,oneV_congr λhk n hm=>hstay (hasks hk n hm)⟩
  ·rcases Sj.1 hj with q | q
   ·obtain ⟨x,h1,h2,h3⟩:=h.at_ j q g hg;exact ⟨x,by rw [Sw (λq=>e q.symm)]; exact h1,get_app h2,h3.trans (oneV_congr λhk n hm=>hstay (h.asks j q g hg hk n hm))⟩
   ·exact absurd (Oj.1 q) e
 ·rcases Sj.1 hj with q | q
  ·have:=h.asks j q g hg hk n hm
   rw [<- hstay this]; exact this
  ·rw [Oj.1 q,hf] at hg;obtain rfl:=Zk hg;rw [<- hstay (hasks hk n hm)]; exact hasks hk n hm
 ·rw [get_snoc] at hv
  cases hg:s.2.get n with
  | some u =>
   obtain ⟨j,hj,r⟩:=h.back n u hg;exact ⟨j,by simp [hj],r⟩
  | none =>
   rw [hg] at hv;simp only at hv
   by_cases e:(n == f.name)=true
   ·exact ⟨i,by simp,f,hf,((Wk _ _).1 e).symm⟩
   ·rw [Bj e] at hv; cases hv
structure Ordd (fs:List Fd) (ρ:List Int) (lv:Nat -> Nat) (os:List Nat):Prop where
 rank:Ranked (wW fs) ρ lv
 perm:os.Perm (List.range fs.length)
 rise:∀ (i j x y:Nat),i < j -> os[i]?=some x -> os[j]?=some y -> ρ.getD x 0 <= ρ.getD y 0
theorem ordL_ordd {fs:List Fd} {ρ:List Int} {lv:Nat -> Nat} (hr:Ranked (wW fs) ρ lv) (h1:0 < fs.length):Ordd fs ρ lv (mX ρ fs.length):=⟨hr,(ordL_spec ρ fs.length h1).1,(ordL_spec ρ fs.length h1).2⟩
theorem needsE_len (fs:List Fd):(wW fs).length=fs.length:=by unfold wW; rw [Gj]
theorem Ordd.len {fs:List Fd} {ρ:List Int} {lv:Nat -> Nat} {os:List Nat} (h:Ordd fs ρ lv os):os.length=fs.length:=by rw [h.perm.length_eq,List.length_range]
theorem Ordd.lt {fs:List Fd} {ρ:List Int} {lv:Nat -> Nat} {os:List Nat} (h:Ordd fs ρ lv os) {i:Nat} (hi:i∈os):i < fs.length:=Uk.1 (h.perm.mem_iff.1 hi)
theorem Ordd.ahead {fs:List Fd} {ρ:List Int} {lv:Nat -> Nat} {os:List Nat} (h:Ordd fs ρ lv os) {t i:Nat} (ht:os[t]?=some i):∀ j∈(wW fs).getD i [],j∈os.take t:=λj hj=>by
 have hi:=h.lt (Ej ht);obtain ⟨h1,-⟩:=h.rank.low i (by rw [needsE_len]; exact hi) j hj;rw [needsE_len] at h1;have h2:ρ.getD j 0 + 1 <= ρ.getD i 0:=by rw [h.rank.at_ i (by rw [needsE_len]; exact hi)]; exact top_le hj
 obtain ⟨u,hu⟩:=Iq (h.perm.mem_iff.2 (Uk.2 h1));have hut:u < t:=by
  rcases (by omega:u < t\/u=t\/t < u) with q | q | q
  ·exact q
  ·subst q;rw [ht] at hu;obtain rfl:=Zk hu;omega
  ·have:=h.rise t u i j q ht hu
   omega
 exact Ej (i:=u) (by rw [List.getElem?_take_of_lt hut]; exact hu)
theorem run_inv {fs:List Fd} (hok:OkFs fs) {inp:Env} (hi:∀ p∈inp,p.2.known) {orc:List Aw} (ho:∀ p∈orc,OkV p.has) {ρ:List Int} {lv:Nat -> Nat} {os:List Nat} (h:Ordd fs ρ lv os):∀ t,t <= os.length -> RunI fs inp orc (os.take t) (runW fs inp orc (os.take t))
 | 0,_=>by
  refine ⟨by simp [runW],rfl,λp hp=>?_,λj hj=>?_,λj hj=>?_,λj hj=>?_,λn v hv=>?_⟩
  ·cases hp
  ·cases hj
  ·cases hj
  ·cases hj
  ·cases hv
 | t + 1,ht=>by
  obtain ⟨i,hti⟩:∃ i,os[t]?=some i:=⟨_,Fj (by omega)⟩;have hil:=h.lt (Ej hti);obtain ⟨f,hf⟩:∃ f,fs[i]?=some f:=⟨_,Fj hil⟩;have e:os.take (t + 1)=os.take t++[i]:=by rw [Jw,hti]; rfl
  have hnd:os.Nodup:=h.perm.nodup_iff.2 Rw;have hni:i ∉ os.take t:=λq=>by
   obtain ⟨u,hu⟩:=Iq q;have hut:u < t:=by
    rcases Ov u t with q | q
    ·exact q
    ·rw [Cv (by rw [Bk]; omega)] at hu; cases hu
   rw [List.getElem?_take_of_lt hut] at hu
   have:=(Qw (by omega) hnd).1 (hu.trans hti.symm)
   omega
  rw [e,runW_snoc];exact run_step hok hi ho (run_inv hok hi ho h t (by omega)) hf hni (h.ahead hti)
theorem all_sol {fs:List Fd} (hok:OkFs fs) {inp:Env} (hi:∀ p∈inp,p.2.known) {orc:List Aw} (ho:∀ p∈orc,OkV p.has) {ρ:List Int} {lv:Nat -> Nat} {os:List Nat} (h:Ordd fs ρ lv os):Sol fs inp orc (allW fs inp orc os) /\ ∀ x∈allW fs inp orc os,OkV x:=by
 have hI:=run_inv hok hi ho h os.length (Ij _);rw [Qk] at hI;have hin:∀ {i:Nat},i < fs.length -> i∈os:=λq=>h.perm.mem_iff.2 (Uk.2 q);refine ⟨⟨hI.len,λi f x hf hx=>?_⟩,λx hx=>?_⟩
 ·obtain ⟨y,h1,h2,h3⟩:=hI.at_ i (hin (Qj.1 hf).1) f hf;obtain rfl:x=y:=Zk (hx.symm.trans h1);refine h3.trans (oneV_congr λhk n hm=>?_);obtain ⟨j,g,g1,g2,-⟩:=refs_need hok hf hk hm;obtain ⟨z,e1,e2,-⟩:=hI.at_ j (hin (Qj.1 g1).1) g g1;rw [g2] at e2;rw [e2, <- g2];exact (fcs_get hok.nodup g1 e1).symm
 ·obtain ⟨i,hi⟩:=Iq hx;exact hI.okv i (hin (by rw [<- hI.len]; exact (Qj.1 hi).1)) x hi
structure Pol where
 t:Int
 b:Int
 c:Int
structure Pol.ok (p:Pol):Prop where
 t1:1 <= p.t
 t6:p.t <= 6
 b1:1 <= p.b
 bc:p.b <= p.c
 cm:p.c <= 1000
@[reducible] def Pol.val (p:Pol):Value:=.agg #[Vi p.t,Vi p.b,Vi p.c]
def gapE (p:Pol) (n:Int):Int:=if p.b * 2 ^ (n.toNat - 1) <= p.c then p.b * 2 ^ (n.toNat - 1) else p.c
structure Cl where
 st:Int
 id:Int
 tr:Int
 key:Vl
 has:Vl
 nx:Int
@[reducible] def clZ:Cl:=⟨0,0,0,zV,zV,0⟩
@[reducible] def Cl.cells (c:Cl):List Value:=[Vi c.st,Vi c.id,Vi c.tr,Vi c.key.k,Vi c.key.n,.string c.key.s,Vi c.has.k,Vi c.has.n,.string c.has.s,Vi c.nx]
abbrev iK (l:List Cl):List (List Value):=l.map Cl.cells
theorem clRows_set (l:List Cl) (i:Nat) (x:Cl):(iK l).set i x.cells=iK (l.set i x):=List.map_set.symm
theorem clRows_get {l:List Cl} {i:Nat} {x:Cl} (h:l[i]?=some x):(iK l)[i]?=some x.cells:=by rw [Nj,h]; rfl
structure ClBe (p:Pol) (c:Cl):Prop where
 s1:1 <= c.st
 s3:c.st <= 3
 i1:1 <= c.id
 i2:c.id <= 1073741824
 t1:1 <= c.tr
 t2:c.tr <= p.t
 n0:0 <= c.nx
 n1:c.nx <= 1073742824
 key:c.key.known
 ask:c.st=1 -> c.has=zV
 knw:c.st=2 -> c.has.known /\ c.nx=0
 giv:c.st=3 -> c.has=zV /\ c.nx=0 /\ c.tr=p.t
def ClOk (p:Pol) (c:Cl):Prop:=c=clZ\/ClBe p c
theorem ClOk.live {p:Pol} {c:Cl} (h:ClOk p c) (h0:c.st≠0):ClBe p c:=by
 rcases h with rfl | h
 ·exact absurd rfl h0
 ·exact h
def ansC (c:Cl):Vl:=if c.st=2 then c.has else if c.st=3 then ⟨5,14,⟨#[]⟩⟩ else pdV
def iZ (p:Pol) (id now:Int) (key:Vl) (c:Cl):Cl × Bool :=
 if key.k <= 3 then if c.st≠0 /\ eqB c.key key=true then (c,false) else (⟨1,id,1,key,zV,now + p.b⟩,true) else (clZ,false)
theorem turn_no {p:Pol} {id now:Int} {key:Vl} {c:Cl} (h:¬ key.k <= 3):iZ p id now key c=(clZ,false):=by unfold iZ; rw [Bj h]
theorem turn_same {p:Pol} {id now:Int} {key:Vl} {c:Cl} (h:key.k <= 3) (h0:c.st≠0) (e:eqB c.key key=true):iZ p id now key c=(c,false):=by unfold iZ; rw [Cj h,Cj ⟨h0,e⟩]
theorem turn_new {p:Pol} {id now:Int} {key:Vl} {c:Cl} (h:key.k <= 3) (e:¬ (c.st≠0 /\ eqB c.key key=true)):iZ p id now key c=(⟨1,id,1,key,zV,now + p.b⟩,true):=by unfold iZ; rw [Cj h,Bj e]
theorem turn_twice {p:Pol} {id now id' now':Int} {key:Vl} {c:Cl}:iZ p id' now' key (iZ p id now key c).1=((iZ p id now key c).1,false):=by
 by_cases h:key.k <= 3
 ·by_cases e:c.st≠0 /\ eqB c.key key=true
  ·rw [turn_same (id:=id) (now:=now) h e.1 e.2]; exact turn_same h e.1 e.2
  ·rw [turn_new (id:=id) (now:=now) h e]; exact turn_same h (by simp) (eqB_iff.2 rfl)
 ·rw [turn_no (id:=id) (now:=now) (c:=c) h]; exact turn_no h
theorem turn_ok {p:Pol} (hp:p.ok) {id now:Int} {key:Vl} {c:Cl} (hk:OkV key) (hc:ClOk p c) (i1:1 <= id) (i2:id <= 1073741824) (n0:0 <= now) (n1:now <= 1073741824):ClOk p (iZ p id now key c).1:=by
 by_cases h:key.k <= 3
 ·by_cases e:c.st≠0 /\ eqB c.key key=true
  ·rw [turn_same h e.1 e.2]; exact hc
  ·rw [turn_new h e];have kk:key.known:=by
    rcases hk with q | rfl | ⟨q,-⟩
    ·exact q
    ·exact absurd h (by decide)
    ·omega
   have:=hp.t1; have:=hp.b1; have:=hp.bc; have:=hp.cm
   exact .inr ⟨Gv 1,by show (1:Int) <= 3; decide,i1,i2,Gv 1,by show (1:Int) <= p.t; omega,by show 0 <= now + p.b; omega,by show now + p.b <= 1073742824; omega,kk,λ_=>rfl,λq=>absurd (show (1:Int)=2 from q) (by decide),λq=>absurd (show (1:Int)=3 from q) (by decide)⟩
 ·rw [turn_no h]; exact .inl rfl
structure Lt where
 nm:ByteArray
 id:Int
 key:Vl
 ans:Vl
@[reducible] def Lt.cells (l:Lt):List Value:=[Vt l.nm,Vi l.id,Vi l.key.k,Vi l.key.n,.string l.key.s,Vi l.ans.k,Vi l.ans.n,.string l.ans.s]
abbrev nW (l:List Lt):List (List Value):=l.map Lt.cells
theorem ltRows_snoc (l:List Lt) (x:Lt):nW (l++[x])=nW l++[x.cells]:=by unfold nW; rw [Sk]; rfl
structure Sst where
 calls:List Cl
 vals:List Vl
 kn:Env
 last:Int
 out:List Lt
def lkupV (key:Vl) (c:Cl):Vl:=if c.st=0 then key else ansC c
def ltOf (nm:ByteArray) (c:Cl):Lt:=⟨nm,c.id,c.key,zV⟩
def stepS (fs:List Fd) (p:Pol) (now:Int) (inp:Env) (s:Sst) (i:Nat):Sst:=match fs[i]? with
 | some f=>if f.kind=3 then
   ⟨s.calls.set i (iZ p (s.last + 1) now (oK s.kn f.src) (s.calls.getD i clZ)).1,s.vals.set i (lkupV (oK s.kn f.src) (iZ p (s.last + 1) now (oK s.kn f.src) (s.calls.getD i clZ)).1),
    s.kn++[(f.name,lkupV (oK s.kn f.src) (iZ p (s.last + 1) now (oK s.kn f.src) (s.calls.getD i clZ)).1)],
    if (iZ p (s.last + 1) now (oK s.kn f.src) (s.calls.getD i clZ)).2=true then s.last + 1 else s.last,
    if (iZ p (s.last + 1) now (oK s.kn f.src) (s.calls.getD i clZ)).2=true then s.out++[ltOf f.name (iZ p (s.last + 1) now (oK s.kn f.src) (s.calls.getD i clZ)).1] else s.out⟩
  else ⟨s.calls,s.vals.set i (oneV f inp [] s.kn),s.kn++[(f.name,oneV f inp [] s.kn)],s.last,s.out⟩
 | none=>s
def qY (fs:List Fd) (p:Pol) (now:Int) (inp:Env) (s:Sst) (os:List Nat):Sst:=os.foldl (stepS fs p now inp) s
theorem runS_snoc (fs:List Fd) (p:Pol) (now:Int) (inp:Env) (s:Sst) (os:List Nat) (i:Nat):qY fs p now inp s (os++[i])=stepS fs p now inp (qY fs p now inp s os) i:=by unfold qY; rw [List.foldl_append]; rfl
theorem runS_at (fs:List Fd) (p:Pol) (now:Int) (inp:Env) (s:Sst) (os:List Nat) (k i:Nat) (hi:os[k]?=some i):qY fs p now inp s (os.take (k + 1))=stepS fs p now inp (qY fs p now inp s (os.take k)) i:=by
 rw [Jw,hi]; exact runS_snoc ..
theorem stepS_look {fs:List Fd} {p:Pol} {now:Int} {inp:Env} {s:Sst} {i:Nat} {f:Fd} {c:Cl} {key:Vl} {r:Cl × Bool} (hf:fs[i]?=some f) (h3:f.kind=3) (hc:s.calls[i]?=some c) (hk:oK s.kn f.src=key) (hr:iZ p (s.last + 1) now key c=r) :
  stepS fs p now inp s i=⟨s.calls.set i r.1,s.vals.set i (lkupV key r.1),s.kn++[(f.name,lkupV key r.1)],if r.2=true then s.last + 1 else s.last,if r.2=true then s.out++[ltOf f.name r.1] else s.out⟩:=by
 have e:s.calls.getD i clZ=c:=by rw [Vk,hc]; rfl
 unfold stepS;rw [hf];simp only;rw [Cj h3,e,hk,hr]
theorem stepS_one {fs:List Fd} {p:Pol} {now:Int} {inp:Env} {s:Sst} {i:Nat} {f:Fd} (hf:fs[i]?=some f) (h3:f.kind≠3) :
  stepS fs p now inp s i=⟨s.calls,s.vals.set i (oneV f inp [] s.kn),s.kn++[(f.name,oneV f inp [] s.kn)],s.last,s.out⟩:=by
 unfold stepS;rw [hf];simp only;rw [Bj h3]
structure CallsOk (fs:List Fd) (p:Pol) (last:Int) (calls:List Cl):Prop where
 len:calls.length=fs.length
 at_:∀ (i:Nat) (f:Fd) (c:Cl),fs[i]?=some f -> calls[i]?=some c -> ClOk p c /\ (c.st≠0 -> f.kind=3 /\ c.id <= last) /\ (c.st=2 -> c.has.k=f.ty)
structure RunS (fs:List Fd) (p:Pol) (now:Int) (inp:Env) (s0:Sst) (os:List Nat) (s:Sst):Prop where
 calls:CallsOk fs p s.last s.calls
 vlen:s.vals.length=fs.length
 klen:s.kn.length=os.length
 ok:∀ q∈s.kn,OkV q.2
 lo:s0.last <= s.last
 hi:s.last <= s0.last + os.length
 olen:s.out.length <= s0.out.length + os.length
 same:∀ i,i ∉ os -> s.calls[i]?=s0.calls[i]?
theorem lkupV_ok {p:Pol} {key:Vl} {c:Cl} (hk:OkV key) (hc:ClOk p c):OkV (lkupV key c):=by
 unfold lkupV
 split
 ·exact hk
 ·rename_i h0;have hb:=hc.live h0;unfold ansC
  split
  ·rename_i h2; exact .inl (hb.knw h2).1
  ·split
   ·exact .inr (.inr ⟨rfl,by decide,by decide,rfl⟩)
   ·exact .inr (.inl rfl)
theorem set_at {α:Type} {l:List α} {i j:Nat} {a b:α} (h:(l.set i a)[j]?=some b):(j=i /\ b=a)\/(j≠i /\ l[j]?=some b):=by
 by_cases e:i=j
 ·subst e;rw [List.getElem?_set_self' ] at h;obtain ⟨x,-,rfl⟩:=Pw.1 h;exact .inl ⟨rfl,rfl⟩
 ·rw [Sw e] at h;exact .inr ⟨λq=>e q.symm,h⟩
theorem runS_inv {fs:List Fd} {p:Pol} {now:Int} {inp:Env} {s0:Sst} {os:List Nat} (hp:p.ok) (hok:OkFs fs) (ki:∀ q∈inp,q.2.known) (n0:0 <= now) (n1:now <= 1073741824) (h0:CallsOk fs p s0.last s0.calls) (v0:s0.vals.length=fs.length) (k0:s0.kn=[]) (l0:0 <= s0.last) (l1:s0.last + os.length <= 1073741824) (hlt:∀ i∈os,i < fs.length) :
  ∀ t,t <= os.length -> RunS fs p now inp s0 (os.take t) (qY fs p now inp s0 (os.take t))
 | 0,_=>⟨h0,v0,by show s0.kn.length=0; rw [k0]; rfl,λq hq=>(by rw [show (qY fs p now inp s0 (os.take 0)).kn=s0.kn from rfl,k0] at hq; cases hq),Gv _,(by show s0.last <= s0.last + ((os.take 0).length:Int); simp),Nat.le_add_right _ _,λ_ _=>rfl⟩
 | t + 1,ht=>by
  have I:=runS_inv hp hok ki n0 n1 h0 v0 k0 l0 l1 hlt t (by omega);obtain ⟨i,hti⟩:∃ i,os[t]?=some i:=⟨_,Fj (by omega)⟩;have hil:=hlt i (Ej hti);obtain ⟨f,hf⟩:∃ f,fs[i]?=some f:=⟨_,Fj hil⟩;have hF:=hok.each f (Ej hf);have e:os.take (t + 1)=os.take t++[i]:=by rw [Jw,hti]; rfl
  have hlen:(os.take t).length=t:=by rw [Bk]; omega
  rw [runS_at fs p now inp s0 os t i hti,e];generalize qY fs p now inp s0 (os.take t)=s at *;have hlo:=I.lo;have hhi:=I.hi;have hol:=I.olen;have hkl:=I.klen;rw [hlen] at hhi hol hkl;obtain ⟨c,hc⟩:∃ c,s.calls[i]?=some c:=⟨_,Fj (by rw [I.calls.len]; exact hil)⟩
  by_cases h3:f.kind=3
  ·have hkey:=evalE_ok (get_ok I.ok) _ f.src (Ij _) (hF.wf (by omega)).1;obtain ⟨r,hr⟩:∃ r,iZ p (s.last + 1) now (oK s.kn f.src) c=r:=⟨_,rfl⟩;obtain ⟨c1,c2,c3⟩:=I.calls.at_ i f c hf hc;have hro:ClOk p r.1:=by rw [<- hr]; exact turn_ok hp hkey c1 (by omega) (by omega) n0 n1
   have hrid:(r.1.st≠0 -> r.1.id <= (if r.2=true then s.last + 1 else s.last)) /\ (r.1.st=2 -> r.1.has.k=f.ty):=by
    rw [<- hr]
    by_cases hk:(oK s.kn f.src).k <= 3
    ·by_cases q:c.st≠0 /\ eqB c.key (oK s.kn f.src)=true
     ·rw [turn_same hk q.1 q.2];exact ⟨λq=>(c2 q).2,c3⟩
     ·rw [turn_new hk q];exact ⟨λ_=>Gv _,λq=>absurd (show (1:Int)=2 from q) (by decide)⟩
    ·rw [turn_no hk];exact ⟨λq=>absurd rfl q,λq=>absurd (show (0:Int)=2 from q) (by decide)⟩
   rw [stepS_look hf h3 hc rfl hr];refine ⟨⟨by rw [Wq]; exact I.calls.len,λj g d hg hd=>?_⟩,by rw [Wq]; exact I.vlen,?_,λq hq=>?_,?_,?_,?_,λj hj=>?_⟩
   ·rcases set_at hd with ⟨rfl,rfl⟩ | ⟨-,hd⟩
    ·rw [hf] at hg;obtain rfl:=Zk hg;exact ⟨hro,λq=>⟨h3,hrid.1 q⟩,hrid.2⟩
    ·obtain ⟨d1,d2,d3⟩:=I.calls.at_ j g d hg hd;refine ⟨d1,λq=>⟨(d2 q).1,?_⟩,d3⟩
     have:=(d2 q).2
     show d.id <= if r.2=true then s.last + 1 else s.last
     split <;> omega
   ·simp only [Tk,Yk,Tq]; omega
   ·rcases Sj.1 hq with q' | q'
    ·exact I.ok q q'
    ·rw [Oj.1 q']; exact lkupV_ok hkey hro
   ·show s0.last <= if r.2=true then s.last + 1 else s.last
    split <;> omega
   ·show (if r.2=true then s.last + 1 else s.last) <= s0.last + ((os.take t++[i]).length:Int);rw [Tk,hlen]
    split <;> (simp only [Yk,Tq]; omega)
   ·show (if r.2=true then s.out++[ltOf f.name r.1] else s.out).length <= _;rw [Tk,hlen]
    split <;> (simp only [Tk,Yk,Tq]; omega)
   ·have hj1:j ∉ os.take t:=λq=>hj (Hk _ q);have hj2:i≠j:=λq=>hj (Vj _ (by rw [q]; exact Oj.2 rfl));show (s.calls.set i r.1)[j]?=_;rw [Sw hj2];exact I.same j hj1
  ·have hv:=oneV_ok hF ki (orc:=[]) (λq hq=>by cases hq) I.ok;rw [stepS_one hf h3];refine ⟨I.calls,by rw [Wq]; exact I.vlen,?_,λq hq=>?_,hlo,?_,?_,λj hj=>I.same j (λq=>hj (Hk _ q))⟩
   ·simp only [Tk,Yk,Tq]; omega
   ·rcases Sj.1 hq with q' | q'
    ·exact I.ok q q'
    ·rw [Oj.1 q']; exact hv
   ·show s.last <= s0.last + ((os.take t++[i]).length:Int);rw [Tk,hlen]; simp only [Yk,Tq]; omega
   ·show s.out.length <= _;rw [Tk,hlen]; simp only [Yk,Tq]; omega
theorem step_keep (fs:List Fd) (p:Pol) (now:Int) (inp:Env) (s:Sst) {i j:Nat} (h:i≠j):(stepS fs p now inp s i).calls[j]?=s.calls[j]? /\ (stepS fs p now inp s i).vals[j]?=s.vals[j]?:=by
 unfold stepS
 split
 ·split
  ·exact ⟨Sw h,Sw h⟩
  ·exact ⟨rfl,Sw h⟩
 ·exact ⟨rfl,rfl⟩
theorem run_keep (fs:List Fd) (p:Pol) (now:Int) (inp:Env) {j:Nat}:∀ (os:List Nat) (s:Sst),j ∉ os -> (qY fs p now inp s os).calls[j]?=s.calls[j]? /\ (qY fs p now inp s os).vals[j]?=s.vals[j]?
 | [],_,_=>⟨rfl,rfl⟩
 | i :: os,s,h=>by
  have h1:=run_keep fs p now inp os (stepS fs p now inp s i) (λq=>h (Mk _ q));have h2:=step_keep fs p now inp s (i:=i) (j:=j) (λq=>h (by rw [q]; exact Cq ..));exact ⟨h1.1.trans h2.1,h1.2.trans h2.2⟩
theorem step_len (fs:List Fd) (p:Pol) (now:Int) (inp:Env) (s:Sst) (i:Nat):(stepS fs p now inp s i).calls.length=s.calls.length /\ (stepS fs p now inp s i).vals.length=s.vals.length:=by
 unfold stepS
 split
 ·split
  ·exact ⟨Wq,Wq⟩
  ·exact ⟨rfl,Wq⟩
 ·exact ⟨rfl,rfl⟩
theorem run_len (fs:List Fd) (p:Pol) (now:Int) (inp:Env):∀ (os:List Nat) (s:Sst),(qY fs p now inp s os).calls.length=s.calls.length /\ (qY fs p now inp s os).vals.length=s.vals.length
 | [],_=>⟨rfl,rfl⟩
 | i :: os,s=>by
  have h1:=run_len fs p now inp os (stepS fs p now inp s i);have h2:=step_len fs p now inp s i;exact ⟨h1.1.trans h2.1,h1.2.trans h2.2⟩
theorem run_final (fs:List Fd) (p:Pol) (now:Int) (inp:Env) (s:Sst) {os:List Nat} (hn:os.Nodup) {t i:Nat} (h:os[t]?=some i) :
  (qY fs p now inp s os).calls[i]?=(qY fs p now inp s (os.take (t + 1))).calls[i]? /\ (qY fs p now inp s os).vals[i]?=(qY fs p now inp s (os.take (t + 1))).vals[i]?:=by
 have e:qY fs p now inp s os=qY fs p now inp (qY fs p now inp s (os.take (t + 1))) (os.drop (t + 1)):=by
  unfold qY;rw [<- List.foldl_append,Ax]
 rw [e];refine run_keep fs p now inp _ _ λhm=>?_;obtain ⟨ht,hv⟩:=Qj.1 h;have hd:os=os.take (t + 1)++os.drop (t + 1):=(Ax _ _).symm;rw [hd] at hn;refine (Dq.1 hn).2.2 i ?_ i hm rfl;rw [Jw,h];exact Vj _ (Oj.2 rfl)
theorem set_same {α:Type} {l:List α} {i:Nat} {a:α} (h:l[i]?=some a):l.set i a=l:=by
 obtain ⟨h1,h2⟩:=Qj.1 h;rw [<- h2,List.set_getElem_self]
theorem runS_fix (fs:List Fd) (p:Pol) (now:Int) (inp:Env) (s:Sst) {os:List Nat} (hn:os.Nodup) (cl:s.calls.length=fs.length) (vl:s.vals.length=fs.length) (k0:s.kn=[]) (now' last':Int):∀ t,t <= os.length ->
  qY fs p now' inp ⟨(qY fs p now inp s os).calls,(qY fs p now inp s os).vals,[],last',[]⟩ (os.take t)=⟨(qY fs p now inp s os).calls,(qY fs p now inp s os).vals,(qY fs p now inp s (os.take t)).kn,last',[]⟩
 | 0,_=>by
  show (⟨_,_,[],last',[]⟩:Sst)=⟨_,_,s.kn,last',[]⟩;rw [k0]
 | t + 1,ht=>by
  have I:=runS_fix fs p now inp s hn cl vl k0 now' last' t (by omega);obtain ⟨i,hti⟩:∃ i,os[t]?=some i:=⟨_,Fj (by omega)⟩;obtain ⟨q1,q2⟩:=run_final fs p now inp s hn hti;obtain ⟨m1,m2⟩:=run_len fs p now inp (os.take t) s;rw [runS_at fs p now' inp _ os t i hti,I];rw [runS_at fs p now inp s os t i hti] at q1 q2 ⊢;generalize qY fs p now inp s os=G at *;generalize qY fs p now inp s (os.take t)=u at *
  cases hf:fs[i]? with
  | none =>
   have e:∀ n x,stepS fs p n inp x i=x:=λn x=>by unfold stepS; rw [hf]
   rw [e,e]
  | some f =>
   have hil:=(Qj.1 hf).1
   by_cases h3:f.kind=3
   ·obtain ⟨c,hc⟩:∃ c,u.calls[i]?=some c:=⟨_,Fj (by omega)⟩;have hs:=stepS_look (inp:=inp) hf h3 hc rfl (p:=p) (now:=now) rfl;rw [hs] at q1 q2 ⊢;simp only at q1 q2 ⊢;rw [Hw (by omega)] at q1 q2;rw [stepS_look (s:=⟨G.calls,G.vals,u.kn,last',[]⟩) hf h3 q1 rfl turn_twice,set_same q1,set_same q2]
    rfl
   ·have hs:=stepS_one (p:=p) (now:=now) (inp:=inp) (s:=u) hf h3;rw [hs] at q1 q2 ⊢;simp only at q1 q2 ⊢;rw [Hw (by omega)] at q2;rw [stepS_one (s:=⟨G.calls,G.vals,u.kn,last',[]⟩) hf h3,set_same q2]
theorem order_any (fs:List Fd) (fv:Value) (h:Vw) (hok:OkFs fs) (hfs:IsFds h fv fs) (ρ:List Int) (lv:Nat -> Nat) (hρ:Ranked (wW fs) ρ lv) (h1:1 <= fs.length) (h2:fs.length < 20) :
  C0 Tryz.prog 64 #[fv] h (λr h'=>∃ A c,r=.tuple #[.slice A fs.length c,Vi 0] /\ RS h' 1 (.slice A fs.length c) (vW (mX ρ fs.length))):=by
 have hnl:(wW fs).length=fs.length:=by unfold wW; rw [Gj]
 have hO:=λH q=>rankOf_any fs fv H hok q ρ lv hρ;have hρl:ρ.length=fs.length:=hρ.len.trans hnl;obtain ⟨-,A,c,rfl,-,-,-,-,-,-⟩:=fQ hfs;generalize hL:fs.length=n at *;have hlo:(vW (List.range n)).length=n:=by simp
 refine yQ Tryz.func64 λhbx hbad Q hQ=>?_;refine go0 9 [] [] ?_;refine uQ (λH sH=>hO _ (hfs.sees sH)) ?_; rintro _ W1 S2 ⟨b,rfl,hro⟩;refine go1 34 [.own,.b 0 0] [] ?_;intro b3;refine kV 3 1 ?_;refine gV [0,1,0,1,1,1,1] [.block 0,.seq [1,1,1,1,1]] (λ(k:Nat) X=>∃ (W4:Vw) (v:Value),X W4 [(4,Vp b3),(19,Vi (n:Int)),(20,Vi (k:Int)),(7,v)] [.row v 3 1 (vW (List.range k)),.box b3 [Vs b n n]] [] /\ Sees W1 W4 /\ (k <= n)) (λk=>n - k) (0) (λX q=>⟨W1,(Vz),q _ _ _ _ ⟨rfl,by kernel_rfl⟩,Sees.refl _,Mj _⟩) ?_;rintro k a w ⟨W4,v,hJ,S5,hk⟩; refine lV hJ ?_; clear hJ a w;refine go0 6 [] [] ?_;rcases (by omega:k < n\/k=n) with hlt | hke
 ·skip;refine rV (t:=decide ((k:Int) < (n:Int))) (Kj (by omega)) ?_
  refine wV 14 [.fix] [] ?_;intro b6 W7 S8;refine goa0 9 [.ap 0 0 (vW (List.range k)) [[Vi (k:Int)]]] [(27,Vi (IntKind.i64.wrap ((k:Int) + 1)),Vi ((k:Int) + 1))] ?_ (ho:=(Aj (by simp; omega) (trivial))) (hc:=(Aj (jJ (by omega) (by omega)) (trivial)));intro v26 W9 S10;refine eV [(4,Vp b3),(19,Vi (n:Int)),(7,sL v26),(20,Vi ((k:Int) + 1))] [.row (sL v26) 3 1 ((vW (List.range k))++[[Vi (k:Int)]]),.box b3 [Vs b n n]] [] ?_;exact qV (k + 1) (λX q=>⟨W9,sL v26,q _ _ _ _ (tY (by rw [List.range_succ,natRows_snoc])),(S5.trans (S8.trans S10)),by omega⟩)
 ·skip;rw [hke]
  refine aV (t:=decide ((n:Int) < (n:Int))) (Jj (by omega)) ?_;refine go0 2 [] [] ?_;refine fV ?_;refine go0 6 [] [] ?_;refine cV 0 (v:=v) (e:=3) (kk:=1) (l:=vW (List.range n)) ?_; intro Av cv hE_v hc_v hm_v;rw [show (vW (List.range n)).length=n from by first | omega | (simp; done) | (simp; omega)] at hE_v hc_v;rw [hE_v];refine g_get (λa w hJ=>own_some (hJ.rowOwn (v:=.slice Av n cv) (e:=3) (kk:=1) (l:=vW (List.range n)) 0 (by kernel_rfl)) ((by rw [Gj,List.length_range]; omega))) ?_; rintro ⟨bV,rfl⟩;refine eV [(7,Vs bV n cv),(28,Vs bV n cv),(29,.func (.func 112) #[] #[Vp b3])] [.row (Vs bV n cv) 3 1 (vW (List.range n)),.box b3 [Vs b n n]] [] ?_;refine g_callsetw 0 (g:=bV) (m:=n) (cap:=cv) (kk:=1) (e:=3) (l:=vW (List.range n)) (l':=vW (mX ρ n)) (λa w hJ hok=>sort_set (n:=n) (by omega) h2 ρ hρl b _ bV cv _ _ _ (hJ.j.boxQ (b:=b3) (cs:=[Vs b n n]) 1 (by kernel_rfl)) ((hro.sees (S5.trans hJ.j.sees))) (by simp [blk,Ent.blocks,Value.ownBlock,Z.is]) (by have:=hJ.j.nodup; simp [blk,Ent.blocks,Value.ownBlock,Z.is] at this; omega) hok) ?_;refine go0 10 [] [] ?_;refine dV 0 (v:=Vs bV n cv) (e:=3) (kk:=1) (l:=vW (mX ρ n)) ?_; intro W11 S12 fo;refine hQ.to [Vs bV n cv,Vi 0] (λH sH=>?_);exact ⟨_,_,rfl,(fo.sees sH)⟩
theorem known_no (v:Vl) (h:Vw) (hk:¬ v.k <= 3) (h1:1 <= v.k):C0 Tryz.prog 60 #[v.val] h (λr _=>r=.bool false):=by
 refine yQ Tryz.func60 λhbx hbad Q hQ=>?_;refine go1 25 [.own,.b 0 0,.b 0 0] [(5,.bool (decide (v.k ≥ 1)),.bool true),(9,.bool (decide (v.k <= 3)),.bool false)] ?_ (hc:=(Aj (Dj Value.bool (Kj h1)) (Aj (Dj Value.bool (Jj hk)) (trivial))));intro b1;refine hQ.to [.bool false] (λH sH=>?_);exact rfl
theorem chk_deep {x:Ex} (h:chkE x=0):(szE x).2 <= 12:=by
 unfold chkE at h
 split at h
 ·cases h
 ·split at h
  ·cases h
  ·omega
theorem asked_no (l:List Aw) (A:Option Addr) (n c:Nat) (s:ByteArray) (key:Vl) (h:Vw) (h4:¬ key.k <= 3) (h1:1 <= key.k):C0 Tryz.prog 114 #[.slice A n c,.string s,.agg #[Vi key.k,Vi key.n,.string key.s]] h (λr _=>r=(askV l s key).val):=by
 have e:askV l s key=key:=by unfold askV; rw [Bj h4]
 rw [e];have hk:=λH=>known_no key H h4 h1;refine yQ Tryz.func114 λhbx hbad Q hQ=>?_;refine go2 23 [.own,.own,.b 1 0,.cl 60 #[.agg #[Vi key.k,Vi key.n,.string key.s]] (.bool false),.b 1 0,.b 0 0] [] ?_ (ho:=(Aj (λH sH=>hk _) (trivial)));intro b1 b2;refine hQ.to [.agg #[Vi key.k,Vi key.n,.string key.s]] (λH sH=>?_) (ix:=[0]);exact rfl
theorem asked_yes (l:List Aw) (sl:Value) (s:ByteArray) (key:Vl) (h:Vw) (hr:RS h 7 sl (qJ l)) (hl:l.length <= 1000000) (hk:key.known):C0 Tryz.prog 114 #[sl,.string s,.agg #[Vi key.k,Vi key.n,.string key.s]] h (λr _=>r=(askV l s key).val):=by
 have e:askV l s key=askL s key l:=by unfold askV; rw [Cj (known_kind hk).2]
 rw [e];have hkn:=c_kn key.k key.n key.s;obtain ⟨A,c,rfl,-,-,-⟩:=hr.form;rw [Gj] at *;generalize hL:l.length=n at *;refine yQ Tryz.func114 λhbx hbad Q hQ=>?_;refine go2 26 [.own,.own,.b 1 0,.cl 60 #[.agg #[Vi key.k,Vi key.n,.string key.s]] (.bool true)] [] ?_ (ho:=(Aj (λH sH=>hkn _ hk) (trivial)));intro b1 b2;refine gV [0,1,0,1,1] [.block 0,.seq [1,1,1]] (λ(k:Nat) X=>∃ (W3:Vw) ,X W3 [(1,.string s),(5,Vp b1),(6,Vp b2),(13,.slice A n c),(14,Vi (n:Int)),(15,Vi (k:Int))] [.box b2 [Vi 0,Vi 0,Ve],.box b1 [Vi key.k,Vi key.n,.string key.s]] [] /\ Sees h W3 /\ (k <= n) /\ (askL s key (l.drop k)=askL s key l)) (λk=>n - k) (0) (λX q=>⟨h,q _ _ _ _ ⟨rfl,by kernel_rfl⟩,Sees.refl _,Mj _,rfl⟩) ?_;rintro k a w ⟨W3,hJ,S4,hkl,hv⟩; refine lV hJ ?_; clear hJ a w;refine go0 6 [] [] ?_;rcases (by omega:k < n\/k=n) with hlt | hke
 ·obtain ⟨p,hp⟩:∃ p,l[k]?=some p:=⟨_,Fj (by omega)⟩;have hrow:(qJ l)[k]?=some (anRow p):=by rw [Nj,hp]; rfl
  have hdr:l.drop k=p :: l.drop (k + 1):=by
   obtain ⟨h1,h2⟩:=Qj.1 hp;rw [Sv h1,h2]
  rw [hdr,askL] at hv;refine rV (t:=decide ((k:Int) < (n:Int))) (Kj (by omega)) ?_;refine go0 6 [] [] ?_;obtain ⟨b5,o6,rfl,-,c7⟩:=RS.row hr (hrow);refine zQ (c7.sees S4) ?_;refine go1 13 [.ix b5 o6 n c k,.f 0 0,.own,.b 0 0,.b 0 0] [] ?_ (ho:=(Aj (by first | omega | (simp; omega)) (trivial)));intro b8
  by_cases g:(p.nm.toList == s.toList)=true
  ·skip
   by_cases q:eqB p.key key=true
   ·have hh:p.hit s key=true:=by unfold Aw.hit; rw [g,q]; rfl
    rw [Cj hh] at hv;refine pV 23 (v:=.bool (p.nm.toList == s.toList)) (v':=.bool true) (Dj Value.bool g) ?_;refine go0 3 [.b 0 1,.b 2 0] [] ?_;refine nV (.bool true) (λw=>run_eqop (x:=(.tmp 25)) (y:=(.tmp 26)) (v:=p.key) (w:=key) (by kernel_rfl) (by kernel_rfl) (by kernel_rfl) (q)) ?_;refine go0 14 [.b 0 4,.b 1 0] [] ?_;refine fV ?_;refine go0 2 [] [] ?_;refine hQ.to [.agg #[Vi p.has.k,Vi p.has.n,.string p.has.s]] (λH sH=>?_) (ix:=[1]);exact Dj Vl.val hv
   ·skip;have hh:¬ p.hit s key=true:=by unfold Aw.hit; rw [g]; exact q
    rw [Bj hh] at hv;refine pV 23 (v:=.bool (p.nm.toList == s.toList)) (v':=.bool true) (Dj Value.bool g) ?_;refine go0 3 [.b 0 1,.b 2 0] [] ?_;refine nV (.bool false) (λw=>run_eqop (x:=(.tmp 25)) (y:=(.tmp 26)) (v:=p.key) (w:=key) (by kernel_rfl) (by kernel_rfl) (by kernel_rfl) (Mq.2 q)) ?_;refine go0 11 [] [(31,Vi (IntKind.i64.wrap ((k:Int) + 1)),Vi ((k:Int) + 1))] ?_ (hc:=(Aj (jJ (by omega) (by omega)) (trivial)));exact qV (k + 1) (λX q=>⟨W3,q _ _ _ _ ⟨rfl,by kernel_rfl⟩,S4,by omega,hv⟩)
  ·skip;have hh:¬ p.hit s key=true:=by unfold Aw.hit; rw [Mq.2 g]; exact Bw
   rw [Bj hh] at hv;refine pV 23 (v:=.bool (p.nm.toList == s.toList)) (v':=.bool false) (Dj Value.bool (Mq.2 g)) ?_;refine go0 15 [] [(31,Vi (IntKind.i64.wrap ((k:Int) + 1)),Vi ((k:Int) + 1))] ?_ (hc:=(Aj (jJ (by omega) (by omega)) (trivial)));exact qV (k + 1) (λX q=>⟨W3,q _ _ _ _ ⟨rfl,by kernel_rfl⟩,S4,by omega,hv⟩)
 ·skip;have hd:l.drop k=[]:=Kw (by omega)
  rw [hd] at hv;refine aV (t:=decide ((k:Int) < (n:Int))) (Jj (by omega)) ?_;refine go0 2 [] [] ?_;refine fV ?_;refine go0 9 [.b 0 0] [] ?_;refine hQ.to [.agg #[Vi 4,Vi 0,Ve]] (λH sH=>?_) (ix:=[0]);exact Dj Vl.val hv
theorem asked_any (l:List Aw) (sl:Value) (s:ByteArray) (key:Vl) (h:Vw) (hr:RS h 7 sl (qJ l)) (hl:l.length <= 1000000) (hk:OkV key):C0 Tryz.prog 114 #[sl,.string s,.agg #[Vi key.k,Vi key.n,.string key.s]] h (λr _=>r=(askV l s key).val):=by
 by_cases g:key.k <= 3
 ·rcases hk with q | rfl | ⟨q,-⟩
  ·exact asked_yes l sl s key h hr hl q
  ·exact absurd g (by decide)
  ·omega
 ·obtain ⟨A,c,rfl,-,-,-⟩:=hr.form;exact asked_no l A _ c s key h g (ok_kinds hk).1
theorem one_inp (f:Fd) (n1 n2 n3 c1 c2 c3:Nat) (A1 A2 A3:Option Addr) (inp:Env) (si:Value) (h:Vw) (hi:RS h 7 si (zK inp)) (li:inp.length <= 1000000) (g:f.kind=1) :
  C0 Tryz.prog 65 #[.agg #[Vt f.name,Vi f.kind,Vi f.ty,Vi f.src.op,Vi f.src.k,Vi f.src.n,.string f.src.s,.string f.src.nm,.slice A1 n1 c1],si,.slice A2 n2 c2,.slice A3 n3 c3] h (λr _=>r=(tellV f.name f.ty inp).val):=by
 obtain ⟨A,c,rfl,-,-,-⟩:=hi.form;rw [Gj] at *;generalize hL:inp.length=n at *;refine yQ Tryz.func65 λhbx hbad Q hQ=>?_;refine go2 24 [.own,.own,.b 1 1] [(15,.bool (f.kind == 1),.bool true)] ?_ (hc:=(Aj (Dj Value.bool (Xj.2 g)) (trivial)));intro b1 b2;refine gV [0,1,0,0,1,0,1] [.block 0,.seq [1,0,1,0,1],.seq [1,1]] (λ(k:Nat) X=>∃ (W3:Vw) ,X W3 [(4,Vp b1),(8,Vp b2),(16,.slice A n c),(17,Vi (n:Int)),(18,Vi (k:Int))] [.box b2 [Vi 0,Vi 0,Ve],.box b1 [Vt f.name,Vi f.kind,Vi f.ty,Vi f.src.op,Vi f.src.k,Vi f.src.n,.string f.src.s,.string f.src.nm,.slice A1 n1 c1]] [] /\ Sees h W3 /\ (k <= n) /\ (tellV f.name f.ty (inp.drop k)=tellV f.name f.ty inp)) (λk=>n - k) (0) (λX q=>⟨h,q _ _ _ _ ⟨rfl,by kernel_rfl⟩,Sees.refl _,Mj _,rfl⟩) ?_;rintro k a w ⟨W3,hJ,S4,hkl,hv⟩; refine lV hJ ?_; clear hJ a w;refine go0 6 [] [] ?_;rcases (by omega:k < n\/k=n) with hlt | hke
 ·obtain ⟨p,hp⟩:∃ p,inp[k]?=some p:=⟨_,Fj (by omega)⟩;have hrow:(zK inp)[k]?=some (fcRow p):=by rw [Nj,hp]; rfl
  have hdr:inp.drop k=p :: inp.drop (k + 1):=by
   obtain ⟨h1,h2⟩:=Qj.1 hp;rw [Sv h1,h2]
  rw [hdr,tellV] at hv;refine rV (t:=decide ((k:Int) < (n:Int))) (Kj (by omega)) ?_;refine go0 6 [] [] ?_;obtain ⟨b5,o6,rfl,-,c7⟩:=RS.row hi (hrow);refine zQ (c7.sees S4) ?_;refine go1 15 [.ix b5 o6 n c k,.f 0 0,.own,.b 0 0,.b 0 0,.b 2 0] [] ?_ (ho:=(Aj (by first | omega | (simp; omega)) (trivial)));intro b8
  by_cases q:(p.1.toList == f.name.toList)=true
  ·rw [Cj q] at hv;refine rV (t:=p.1.toList == f.name.toList) (q) ?_;refine go0 10 [.b 0 4,.b 1 0] [] ?_;refine fV ?_;refine go0 3 [] [] ?_;refine hQ.to [.agg #[Vi p.2.k,Vi p.2.n,.string p.2.s]] (λH sH=>?_) (ix:=[1]);exact Dj Vl.val hv
  ·skip;rw [Bj q] at hv
   refine aV (t:=p.1.toList == f.name.toList) (Mq.2 q) ?_;refine go0 7 [] [(29,Vi (IntKind.i64.wrap ((k:Int) + 1)),Vi ((k:Int) + 1))] ?_ (hc:=(Aj (jJ (by omega) (by omega)) (trivial)));exact qV (k + 1) (λX q=>⟨W3,q _ _ _ _ ⟨rfl,by kernel_rfl⟩,S4,by omega,hv⟩)
 ·skip;have hd:inp.drop k=[]:=Kw (by omega)
  rw [hd] at hv;refine aV (t:=decide ((k:Int) < (n:Int))) (Jj (by omega)) ?_;refine go0 2 [] [] ?_;refine fV ?_;refine go0 12 [.b 1 2,.b 0 0] [] ?_;refine hQ.to [.agg #[Vi f.ty,Vi 0,Ve]] (λH sH=>?_) (ix:=[0]);exact Dj Vl.val hv
theorem one_wf (f:Fd) (v:Value) (inp:Env) (si:Value) (orc:List Aw) (so:Value) (kn:Env) (sk:Value) (h:Vw) (hf:f.kind≠1 -> WfE f.src /\ (szE f.src).1 <= 60 /\ chkE f.src=0) (ha:IsArgs h f.src v) (hi:RS h 7 si (zK inp)) (ho:RS h 7 so (qJ orc)) (hk:RS h 7 sk (zK kn))
  (li:inp.length <= 1000) (lo:orc.length <= 1000) (lk:kn.length <= 1000) (okk:∀ p∈kn,OkV p.2) :
  C0 Tryz.prog 65 #[.agg #[Vt f.name,Vi f.kind,Vi f.ty,Vi f.src.op,Vi f.src.k,Vi f.src.n,.string f.src.s,.string f.src.nm,v],si,so,sk] h (λr _=>r=(oneV f inp orc kn).val):=by
 obtain ⟨A1,n1,c1,rfl⟩:=ha.slice;obtain ⟨A2,c2,rfl,-,-,-⟩:=ho.form;obtain ⟨A3,c3,rfl,-,-,-⟩:=hk.form;rw [Gj] at *;rw [Gj] at *
 by_cases g:f.kind=1
 ·have e:oneV f inp orc kn=tellV f.name f.ty inp:=by unfold oneV; rw [Cj g]
  rw [e];exact one_inp f _ _ _ _ _ _ _ _ _ inp si h hi (by omega) g
 ·obtain ⟨w1,w2,w3⟩:=hf g;have w4:(szE f.src).2 <= 12:=chk_deep w3;have hE:=λH q1 q2=>eval_any f.src (.slice A1 n1 c1) kn (.slice A3 kn.length c3) H q1 w1 w2 w4 q2 okk lk;have hv:=evalE_ok (get_ok okk) _ f.src (Ij _) w1;have hA:=λH q=>asked_any orc (.slice A2 orc.length c2) f.name (oK kn f.src) H q (by omega) hv;obtain ⟨A,c,rfl,-,-,-⟩:=hi.form;rw [Gj] at *;generalize inp.length=n at *;have e:oneV f inp orc kn=if f.kind=3 then askV orc f.name (oK kn f.src) else oK kn f.src:=by unfold oneV; rw [Bj g]
  rw [e];generalize oK kn f.src=key at *;generalize askV orc f.name key=av at *;generalize orc.length=n2 at *;generalize kn.length=n3 at *
  by_cases g3:f.kind=3
  ·rw [Cj g3];refine yQ Tryz.func65 λhbx hbad Q hQ=>?_;refine go3 52 [.own,.own,.b 1 1,.b 1 3,.cl 58 #[.agg #[Vi f.src.op,Vi f.src.k,Vi f.src.n,.string f.src.s,.string f.src.nm,.slice A1 n1 c1],.slice A3 n3 c3] (.tuple #[.agg #[Vi key.k,Vi key.n,.string key.s],Vi 0]),.own,.b 0 0,.b 2 1,.b 2 0,.b 0 0,.cl 114 #[.slice A2 n2 c2,.string f.name,.agg #[Vi key.k,Vi key.n,.string key.s]] (.agg #[Vi av.k,Vi av.n,.string av.s]),.b 1 0] [(15,.bool (f.kind == 1),.bool false),(42,.bool (f.kind == 3),.bool true)] ?_ (ho:=(Aj (λH sH=>hE _ (ha.sees sH) (hk.sees sH)) (Aj (λH sH=>hA _ (ho.sees sH)) (trivial)))) (hc:=(Aj (Dj Value.bool (Lj.2 g)) (Aj (Dj Value.bool (Xj.2 g3)) (trivial))));intro b1 b2 b3;refine hQ.to [.agg #[Vi av.k,Vi av.n,.string av.s]] (λH sH=>?_) (ix:=[1]);exact rfl
  ·rw [Bj g3];refine yQ Tryz.func65 λhbx hbad Q hQ=>?_;refine go3 49 [.own,.own,.b 1 1,.b 1 3,.cl 58 #[.agg #[Vi f.src.op,Vi f.src.k,Vi f.src.n,.string f.src.s,.string f.src.nm,.slice A1 n1 c1],.slice A3 n3 c3] (.tuple #[.agg #[Vi key.k,Vi key.n,.string key.s],Vi 0]),.own,.b 0 0,.b 2 1,.b 0 0,.b 1 0] [(15,.bool (f.kind == 1),.bool false),(42,.bool (f.kind == 3),.bool false)] ?_ (ho:=(Aj (λH sH=>hE _ (ha.sees sH) (hk.sees sH)) (trivial))) (hc:=(Aj (Dj Value.bool (Lj.2 g)) (Aj (Dj Value.bool (Lj.2 g3)) (trivial))));intro b1 b2 b3;refine hQ.to [.agg #[Vi key.k,Vi key.n,.string key.s]] (λH sH=>?_) (ix:=[1]);exact rfl
theorem one_any (fs:List Fd) (f:Fd) (v:Value) (inp:Env) (si:Value) (orc:List Aw) (so:Value) (kn:Env) (sk:Value) (h:Vw) (hf:OkF fs f) (ha:IsArgs h f.src v) (hi:RS h 7 si (zK inp)) (ho:RS h 7 so (qJ orc)) (hk:RS h 7 sk (zK kn))
  (li:inp.length <= 1000) (lo:orc.length <= 1000) (lk:kn.length <= 1000) (okk:∀ p∈kn,OkV p.2) :
  C0 Tryz.prog 65 #[.agg #[Vt f.name,Vi f.kind,Vi f.ty,Vi f.src.op,Vi f.src.k,Vi f.src.n,.string f.src.s,.string f.src.nm,v],si,so,sk] h (λr _=>r=(oneV f inp orc kn).val):=one_wf f v inp si orc so kn sk h hf.wf ha hi ho hk li lo lk okk
theorem whCheck_any (f:Fm) (ρ:List Int) (lv:Nat -> Nat) (A:Option Addr) (n c:Nat) (B:Option Addr) (m d:Nat) (inp:Env) (si so:Value) (orc:List Aw) (h:Vw) (hok:OkFm f ρ lv) (hf:IsForm h (.slice A n c) (.slice B m d) f) (hn:n=f.fields.length)
  (hi:RS h 7 si (zK inp)) (li:inp.length <= 1000000) (ki:∀ p∈inp,p.2.known) (ti:vK f.fields [] inp=0) (ho:RS h 7 so (qJ orc))
  (hO:∀ H,IsForm H (.slice A n c) (.slice B m d) f -> RS H 7 so (qJ orc) -> C0 Tryz.prog 110 #[.agg #[.slice A n c,.slice B m d],so] H (λr _=>r=Vi 0)) :
  C0 Tryz.prog 63 #[.agg #[.slice A n c,.slice B m d],si,so] h (λr _=>r=Vi 0):=by
 have hC:=λH q=>shCheck_any f ρ lv A n c B m d H hok q hn;have few:=hok.fields.few;have hF:=λH q1 q2=>facts_v f.fields (.slice A n c) (.slice B m d) inp si H q1 rfl (by omega) q2 li ki;rw [ti] at hF;obtain ⟨A1,c1,rfl,-,-,-⟩:=hi.form;obtain ⟨A2,c2,rfl,-,-,-⟩:=ho.form;rw [Gj] at *;rw [Gj] at *;refine yQ Tryz.func63 λhbx hbad Q hQ=>?_;refine go1 50 [.own,.b 0 0,.cl 41 #[.agg #[.slice A n c,.slice B m d]] (Vi 0),.b 0 0,.cl 98 #[.agg #[.slice A n c,.slice B m d],.slice A1 inp.length c1] (Vi 0),.b 0 0,.cl 110 #[.agg #[.slice A n c,.slice B m d],.slice A2 orc.length c2] (Vi 0)] [] ?_ (ho:=(Aj (λH sH=>hC _ (hf.sees sH)) (Aj (λH sH=>hF _ ((hf.sees sH)).fields (hi.sees sH)) (Aj (λH sH=>hO _ (hf.sees sH) (ho.sees sH)) (trivial)))));intro b1;refine hQ.to [Vi 0] (λH sH=>?_);exact rfl
def AllO (n:Nat) (va:List Vl) (r u:Value) (l:List (List Value)):Prop:=r=.tuple #[u,Vi 0] /\ (∃ A' c',u=.slice A' n c') /\ l=kZ va
theorem whAll_own (f:Fm) (ρ:List Int) (lv:Nat -> Nat) (A:Option Addr) (n c:Nat) (B:Option Addr) (m d:Nat) (inp:Env) (si so:Value) (orc:List Aw) (h:Vw) (hok:OkFm f ρ lv) (hf:IsForm h (.slice A n c) (.slice B m d) f) (hn:n=f.fields.length) (h1:1 <= n)
  (hi:RS h 7 si (zK inp)) (li:inp.length <= 1000) (ki:∀ p∈inp,p.2.known) (ti:vK f.fields [] inp=0) (ho:RS h 7 so (qJ orc)) (lo:orc.length <= 1000) (ko:∀ p∈orc,OkV p.has)
  (hO:∀ H,IsForm H (.slice A n c) (.slice B m d) f -> RS H 7 so (qJ orc) -> C0 Tryz.prog 110 #[.agg #[.slice A n c,.slice B m d],so] H (λr _=>r=Vi 0)) :
  C0 Tryz.prog 22 #[.agg #[.slice A n c,.slice B m d],si,so] h (λr h'=>∃ u l,Ent.ok h.w.heap.size h'.w (.row u 44 3 l) /\ AllO n (allW f.fields inp orc (mX ρ n)) r u l):=by
 have hC:=λH q1 q2 q3=>whCheck_any f ρ lv A n c B m d inp si so orc H hok q1 hn q2 (by omega) ki ti q3 hO;have few:=hok.fields.few;have hOr:=λH q=>order_any f.fields (.slice A n c) H hok.fields q ρ lv hok.rank (by omega) (by omega);rw [<- hn] at hOr;have hod:Ordd f.fields ρ lv (mX ρ n):=by rw [hn]; exact ordL_ordd hok.rank (by omega)
 have hol:=hod.len;have hrun:=run_inv hok.fields ki ko hod;have hon:∀ (g:Fd) (u sk:Value) (kn:Env) (H:Vw),g∈f.fields -> IsArgs H g.src u -> RS H 7 si (zK inp) -> RS H 7 so (qJ orc) -> RS H 7 sk (zK kn) -> kn.length <= 1000 -> (∀ p∈kn,OkV p.2) -> _:=λg u sk kn H q0 q1 q2 q3 q4 q5 q6=>one_any f.fields g u inp si orc so kn sk H (hok.fields.each g q0) q1 q2 q3 q4 li lo q5 q6;obtain ⟨A1,c1,rfl,-,-,-⟩:=hi.form;obtain ⟨A2,c2,rfl,-,-,-⟩:=ho.form;rw [Gj] at *;rw [Gj] at *;obtain ⟨vs,A3,c3,e3,-,-,hr3,hs3,hl3,hsl⟩:=fQ hf.fields;simp only [Kk] at e3;obtain ⟨rfl,-,rfl⟩:=e3;rw [<- hn] at hr3 hl3;have hstep:=λk i (hi:(mX ρ n)[k]?=some i) (g:Fd) (hg:f.fields[i]?=some g)=>run_at f.fields inp orc (mX ρ n) k i hi g hg;show C0 _ _ _ _ (λr h'=>∃ u l,Ent.ok h.w.heap.size h'.w (.row u 44 3 l) /\ AllO n (runW f.fields inp orc (mX ρ n)).1 r u l);have hlt':=λi (q:i∈mX ρ n)=>hod.lt q;rw [<- hn] at hlt' hol;have hlen:=λk q=>(hrun k q).len;have hkl:=λk q=>(hrun k q).klen;have hok':=λk q=>(hrun k q).ok;clear hrun hod;have hw0:runW f.fields inp orc []=(List.replicate n zV,[]):=by rw [hn]; rfl
 generalize mX ρ n=os at *;generalize runW f.fields inp orc=rw' at *;generalize hni:inp.length=ni at *;generalize hno:orc.length=no at *;refine yQ Tryz.func22 λhbx hbad Q hQ=>?_;refine go1 30 [.own,.b 0 0,.cl 63 #[.agg #[.slice A n c,.slice B m d],.slice A1 ni c1,.slice A2 no c2] (Vi 0),.b 0 0] [] ?_ (ho:=(Aj (λH sH=>hC _ (hf.sees sH) (hi.sees sH) (ho.sees sH)) (trivial)));intro b1;refine uQ (λH sH=>hOr _ ((hf.sees sH)).fields) ?_; rintro _ W2 S3 ⟨A4,c4,rfl,hro⟩;refine go0 12 [.b 0 0] [] ?_;refine g_makek (t:=34) (e:=44) (z:=.agg #[Vi 0,Vi 0,Ve]) (cs:=[Vi 0,Vi 0,Ve]) (x:=(.tmp 30)) (by_:=32) (m:=n) (kk:=3) (by kernel_rfl) Tryz.underlying34 (by kernel_rfl) rfl rfl (by decide) (by omega) (by omega) (by simp only [maxLen]; omega) ?_; intro b4;refine go0 17 [] [] ?_;refine kV 122 7 ?_;rw [show List.replicate n [Vi 0,Vi 0,.string ⟨#[]⟩]=kZ (List.replicate n zV) from by unfold kZ; rw [List.map_replicate]; rfl];refine gV [0,1,0,1,1,1,1,1] [.block 0,.seq [1,1,1,1,1,1]] (λ(k:Nat) X=>∃ (W5:Vw) (v:Value) (ov:List Vl) (kv:Env),X W5 [(1,.slice A1 ni c1),(2,.slice A2 no c2),(3,Vp b1),(11,Vs b4 n n),(32,.slice A4 n c4),(33,Vi (n:Int)),(34,Vi (k:Int)),(12,v)] [.row v 122 7 (zK kv),.row (Vs b4 n n) 44 3 (kZ ov),.box b1 [.slice A n c,.slice B m d]] [] /\ Sees W2 W5 /\ (k <= n) /\ (rw' (os.take k)=(ov,kv))) (λk=>n - k) (0) (λX q=>⟨W2,(Vz),List.replicate n zV,[],q _ _ _ _ ⟨rfl,by kernel_rfl⟩,Sees.refl _,Mj _,hw0⟩) ?_;rintro k a w ⟨W5,v,ov,kv,hJ,S6,hk,hv⟩; refine lV hJ ?_; clear hJ a w;refine go0 6 [] [] ?_;rcases (by omega:k < n\/k=n) with hlt | hke
 ·obtain ⟨i,hoi⟩:∃ i,os[k]?=some i:=⟨_,Fj (by omega)⟩;have hil:=hlt' i (Ej hoi);obtain ⟨g,hg⟩:∃ g,f.fields[i]?=some g:=⟨_,Fj (by omega)⟩;obtain ⟨u,hu⟩:∃ u,vs[i]?=some u:=⟨_,Fj (by omega)⟩;have hrow:=cQ hg hu;have hga:∀ H,AllSrc H f.fields vs -> IsArgs H g.src u:=λH q=>AllArgs.get q (x:=g.src) (by rw [Nj,hg]; rfl) hu;obtain ⟨Au,nu,cu,rfl⟩:=(hga _ hs3).slice;have hro1:(vW os)[k]?=some [Vi (i:Int)]:=by rw [Nj,hoi]; rfl
  have hl1:=hlen k (by omega);have hl2:=hkl k (by omega);have hl3':=hok' k (by omega);have hst:=hstep k i hoi g hg;rw [hv] at hl1 hl2 hl3' hst;simp only at hl1 hl2 hl3' hst;rw [Bk] at hl2;obtain ⟨x0,hx0⟩:∃ x,ov[i]?=some x:=⟨_,Fj (by omega)⟩;have hx1:=vlRows_get hx0;have hon':=λsk H q1 q2 q3 q4=>hon g (.slice Au nu cu) sk kv H (Ej hg) q1 q2 q3 q4 (by omega) hl3';have hfr:(zK kv).length=kv.length:=Gj _;generalize oneV g inp orc kv=xv at *;have hx2:((kZ ov).set i [Vi xv.k,Vi xv.n,.string xv.s])[i]?=some [Vi xv.k,Vi xv.n,.string xv.s]:=Hw (by rw [Gj]; omega);refine rV (t:=decide ((k:Int) < (n:Int))) (Kj (by omega)) ?_;refine go0 6 [] [] ?_;obtain ⟨b7,o8,rfl,-,c9⟩:=RS.row hro (hro1);refine zQ (c9.sees S6) ?_;refine go0 12 [.ix b7 o8 n c4 k,.f 0 0,.b 2 0] [] ?_ (ho:=(Aj (by first | omega | (simp; omega)) (trivial)));obtain ⟨b10,o11,rfl,-,c12⟩:=RS.row hr3 (hrow);refine zQ (c12.sees (S3.trans S6)) ?_;refine go0 5 [.ix b10 o11 n c i,.f 0 0] [] ?_ (ho:=(Aj (by first | omega | (simp; omega)) (trivial)));refine g_callq (λa w hJ=>hon' _ _ (hga _ (hs3.sees (S3.trans (S6.trans hJ.j.seesQ)))) (hi.sees (S3.trans (S6.trans hJ.j.seesQ))) (ho.sees (S3.trans (S6.trans hJ.j.seesQ))) (hJ.j.rowQ (v:=v) (e:=122) (k:=7) (l:=zK kv) 0 (by kernel_rfl))) ?_; intro W13 S14;refine go0 1 [.ix b4 0 n n i] [] ?_ (ho:=(Aj (by first | omega | (simp; omega)) (trivial)));refine g_rowset 1 i 0 (g:=b4) (m:=n) (cap:=n) (kk:=3) (e:=44) (l:=kZ ov) (r:=[Vi x0.k,Vi x0.n,.string x0.s]) (r':=[Vi xv.k,Vi xv.n,.string xv.s]) (t:=44) (x:=(.tmp 49)) (y:=(.tmp 48)) (v:=.agg #[Vi xv.k,Vi xv.n,.string xv.s]) (hx1) ?_;refine go0 2 [] [] ?_;have c15:=RS.cell hr3 (hrow);refine zQ (c15.sees (S3.trans (S6.trans S14))) ?_;refine oV 15 0 [.pu,.pu,.ld 2 0,.pu,.v (λgh=>.pointer (some ⟨b10,o11 + i * 9,none⟩)),.pu,.lf 0 0,.pu,.pu,.v (λgh=>.pointer (some ⟨b4,0 + i * 3,none⟩)),.v (λgh=>.agg #[Vi xv.k,Vi xv.n,.string xv.s]),.pu,.f (λgh=>.slice (some ⟨(vJ (gh 12)),0,none⟩) 1 1) (λgh hh=>Cells hh (vJ (gh 12)) 0 [Vt g.name,Vi 0,Vi 0,Ve,Vi xv.k,Vi xv.n,.string xv.s]),.e (λgh=>sL (gh 13)) 0 (λgh=>.row (sL (gh 13)) 122 7 ((zK kv)++[[Vt g.name,Vi 0,Vi 0,Ve,Vi xv.k,Vi xv.n,.string xv.s]])),.pu] [(12,true),(13,false)] (Aj (λ_ _ _ s c=>c.sees s) (trivial)) ?_ ?_
  ·intro R hT hA hmono;refine Aj (eZ hT hA b10 o11 n c i (λgh=>.pointer (some ⟨b10,o11 + i * 9,none⟩)) (by first | omega | (simp; omega))) ?_;refine Aj (eZ hT hA b4 0 n n i (λgh=>.pointer (some ⟨b4,0 + i * 3,none⟩)) (by first | omega | (simp; omega))) ?_;refine Aj (r_rowget' hT hA 60 (λgh=>.agg #[Vi xv.k,Vi xv.n,.string xv.s]) [9] 10 1 (GN R 1) b4 n n 3 44 ((kZ ov).set i [Vi xv.k,Vi xv.n,.string xv.s]) i 0 (r:=[Vi xv.k,Vi xv.n,.string xv.s]) (hx2) 44 (.tmp 59)) ?_;refine Aj (dY hT hA hmono 62 (λg=>Vs g 1 1) [11] 12 (λgh=>[Vt g.name,Vi 0,Vi 0,Ve,Vi xv.k,Vi xv.n,.string xv.s]) 122 (λgh zb zH zc zj zq zhq zhe=>nX (i:=12) (k:=0) (f:=λgh hh=>Cells hh (vJ (gh 12)) 0 [Vt g.name,Vi 0,Vi 0,Ve,Vi xv.k,Vi xv.n,.string xv.s]) (by kernel_rfl) (by kernel_rfl) zc zj zq zhq zhe)) ?_;refine Aj (zX hT hA hmono 63 [0,12] 13 0 (GN R 0) (λgh=>v) 32 122 7 (λgh=>zK kv) (λgh=>[[Vt g.name,Vi 0,Vi 0,Ve,Vi xv.k,Vi xv.n,.string xv.s]]) (.tmp 50) (.tmp 62) (λgh=>(vJ (gh 12))) 1 1 0 12 (λgh hh=>Cells hh (vJ (gh 12)) 0 [Vt g.name,Vi 0,Vi 0,Ve,Vi xv.k,Vi xv.n,.string xv.s]) (λ_ _ c=>c) Tryz.underlying32 (zv:=.agg #[Ve,Vi 0,Vi 0,Ve,Vi 0,Vi 0,Ve]) (bytes:=80) (λ_=>by constructor <;> (simp; omega))) ?_
   trivial
  rintro b17 v63 W18 S19 ⟨f16,-⟩;replace f16:Cells W18 b17 0 [Vt g.name,Vi 0,Vi 0,Ve,Vi xv.k,Vi xv.n,.string xv.s]:=f16;refine zQ f16 ?_;refine go0 6 [] [(64,Vi (IntKind.i64.wrap ((k:Int) + 1)),Vi ((k:Int) + 1))] ?_ (hc:=(Aj (jJ (by omega) (by omega)) (trivial)));refine eV [(1,.slice A1 ni c1),(2,.slice A2 no c2),(3,Vp b1),(11,Vs b4 n n),(32,.slice (some ⟨b7,o8,none⟩) n c4),(33,Vi (n:Int)),(12,sL v63),(34,Vi ((k:Int) + 1))] [.row (sL v63) 122 7 ((zK kv)++[[Vt g.name,Vi 0,Vi 0,Ve,Vi xv.k,Vi xv.n,.string xv.s]]),.row (Vs b4 n n) 44 3 ((kZ ov).set i [Vi xv.k,Vi xv.n,.string xv.s]),.box b1 [.slice (some ⟨b10,o11,none⟩) n c,.slice B m d]] [] ?_;exact qV (k + 1) (λX q=>⟨W18,sL v63,ov.set i xv,kv++[(g.name,xv)],q _ _ _ _ (tY (by rw [aQ, <- vlRows_set])),(S6.trans (S14.trans S19)),by omega,hst⟩)
 ·skip;have hta:os.take k=os:=by rw [hke, <- hol,Qk]
  rw [hta] at hv;refine aV (t:=decide ((k:Int) < (n:Int))) (Jj (by omega)) ?_;refine go0 2 [] [] ?_;refine fV ?_;refine go0 10 [] [] ?_;refine hQ.toJ [Vs b4 n n,Vi 0] [] (λa w hJ=>?_);have fo:=hJ.rowOwn (v:=Vs b4 n n) (e:=44) (kk:=3) (l:=kZ ov) 1 (by kernel_rfl);exact ⟨_,_,fo,rfl,⟨_,_,rfl⟩,by rw [hv]⟩
theorem whAll_any (f:Fm) (ρ:List Int) (lv:Nat -> Nat) (A:Option Addr) (n c:Nat) (B:Option Addr) (m d:Nat) (inp:Env) (si so:Value) (orc:List Aw) (h:Vw) (hok:OkFm f ρ lv) (hf:IsForm h (.slice A n c) (.slice B m d) f) (hn:n=f.fields.length) (h1:1 <= n)
  (hi:RS h 7 si (zK inp)) (li:inp.length <= 1000) (ki:∀ p∈inp,p.2.known) (ti:vK f.fields [] inp=0) (ho:RS h 7 so (qJ orc)) (lo:orc.length <= 1000) (ko:∀ p∈orc,OkV p.has)
  (hO:∀ H,IsForm H (.slice A n c) (.slice B m d) f -> RS H 7 so (qJ orc) -> C0 Tryz.prog 110 #[.agg #[.slice A n c,.slice B m d],so] H (λr _=>r=Vi 0)) :
  C0 Tryz.prog 22 #[.agg #[.slice A n c,.slice B m d],si,so] h (λr h'=>∃ A' c',r=.tuple #[.slice A' n c',Vi 0] /\ RS h' 3 (.slice A' n c') (kZ (allW f.fields inp orc (mX ρ n)))):=by
 intro a1 a2 a3 a4;refine (whAll_own f ρ lv A n c B m d inp si so orc h hok hf hn h1 hi li ki ti ho lo ko hO a1 a2 a3 a4).mono ?_;rintro e w' ⟨v,Bo,g1,g2,g3,g4,u,l,g5,rfl,⟨A',c',rfl⟩,rfl⟩;exact ⟨_,Bo,g1,g2,g3,g4,A',c',rfl,row_rs g5 (λb hb hm=>by have:=a4 b hm; have:=(g5.1.lt b hb).1; omega)⟩
theorem form_okFm (l:List RawD):OkFm (nQ l) (rhoL (wW (nQ l).fields)) (lvF l):=⟨form_okFs l _ (pQ l) (λf=>Iff.rfl) (by have:=oQ l; have:=rW l; omega),form_okGs l,form_ranked l⟩
theorem form_ty (l:List RawD):∀ f∈(nQ l).fields,1 <= f.ty /\ f.ty <= 3:=λf hf=>by obtain ⟨_,_,_,_,q,_⟩:=form_each hf; exact q
def allF (l m:List RawD) (orc:List Aw):List Vl:=allW (nQ l).fields (inpE (nQ l).fields m) orc (mX (rhoL (wW (nQ l).fields)) (nQ l).fields.length)
structure InpOk (fs:List Fd) (env:Env):Prop where
 known:∀ p∈env,p.2.known
 told:vK fs [] env=0
 few:env.length <= fs.length
 once:(env.map (·.1)).Nodup
theorem inp_ok (l m:List RawD):InpOk (nQ l).fields (inpE (nQ l).fields m):=by
 have k0:=inp_told (l:=m) (pQ l);have k2:((inpE (nQ l).fields m).map (·.1)).Nodup:=inpF_nodup (l:=m) (pQ l) (nQ l).fields.length (Ij _);exact ⟨inp_known (l:=m) (form_ty l),factsV_ok _ _ [] k0 k2,(inpF_le (nQ l).fields m (nQ l).fields.length).2,k2⟩
theorem allF_sol (l m:List RawD) {orc:List Aw} (ho:∀ p∈orc,OkV p.has):Sol (nQ l).fields (inpE (nQ l).fields m) orc (allF l m orc) /\ ∀ x∈allF l m orc,OkV x :=
 all_sol (form_okFm l).fields (inp_ok l m).known ho (ordL_ordd (form_ranked l) (by have:=oQ l; have:=rW l; omega))
theorem all_form (l m:List RawD) (orc:List Aw) (A:Option Addr) (c:Nat) (B:Option Addr) (d:Nat) (si so:Value) (h:Vw) (hf:IsForm h (.slice A (nQ l).fields.length c) (.slice B (nQ l).pages.length d) (nQ l)) (hi:RS h 7 si (zK (inpE (nQ l).fields m)))
  (ho:RS h 7 so (qJ orc)) (lo:orc.length <= 1000) (ko:∀ p∈orc,OkV p.has)
  (hO:∀ H,IsForm H (.slice A (nQ l).fields.length c) (.slice B (nQ l).pages.length d) (nQ l) -> RS H 7 so (qJ orc) -> C0 Tryz.prog 110 #[.agg #[.slice A (nQ l).fields.length c,.slice B (nQ l).pages.length d],so] H (λr _=>r=Vi 0)) :
  C0 Tryz.prog 22 #[.agg #[.slice A (nQ l).fields.length c,.slice B (nQ l).pages.length d],si,so] h (λr h'=>∃ A' c',r=.tuple #[.slice A' (nQ l).fields.length c',Vi 0] /\ RS h' 3 (.slice A' (nQ l).fields.length c') (kZ (allF l m orc))):=by
 have hn:=rW l;have hl:=oQ l;have hI:=inp_ok l m
 have:=hI.few
 exact whAll_any (nQ l) _ _ A _ c B _ d _ si so orc h (form_okFm l) hf rfl (by omega) hi (by omega) hI.known hI.told ho lo ko hO
theorem int_len (l:List Int):Len 1 (lY l):=λr hr=>by obtain ⟨x,-,rfl⟩:=Rj.1 hr; rfl
theorem int_one (l:List Int):One (lY l):=λr hr u hu=>by
 obtain ⟨x,-,rfl⟩:=Rj.1 hr;rw [Oj.1 hu]; rfl
theorem info_int:(Tryz.prog.info? 3).map (λi=>(i.zero,i.size,i.bytes))=some (some (Vi 0),1,8):=by kernel_rfl
theorem clone_int (v:Value) (l:List (List Value)) (w:World) (h:Sl w 1 v l) (hk:Len 1 l) (h1:One l) (hl:l.length * 8 <= 140737488355328) :
  Calls Tryz.prog 81 #[v] w (GivesOwn 3 1 l w):=by
 have q22:∀ (w:World) (a:Option Addr) (n c n' c':Nat),(binOp .eql 62 (.slice a n c) (.slice none n' c')).run Tryz.prog w=.ok (.bool a.isNone) w:=λw a n c n' c'=>Lib.run_eql_slice_nil w _ _ a n c n' c' Tryz.underlying62;obtain ⟨A,cap,rfl,c1,c2,hA⟩:=h.form
 cases A with
 | none =>
  obtain rfl:=hA rfl;have h0:l.length=0:=by omega
  obtain rfl:=Qq.1 h0
  go_enter Tryz.func81,Tryz.ntmps81
  go_wp2_with fail
  go_ret
  exact ⟨_,rfl,⟨by simp,.inl ⟨rfl,rfl⟩⟩,Evo.refl _⟩
 | some a =>
  have HR:=Hj h;have HK:=Hj hk;have H1:=Hj h1;clear h hk h1
  go_enter Tryz.func81,Tryz.ntmps81
  go_wp2_with (at_builtin; refine nZ rfl (.tmp 5) (.tmp 6) 62 rfl 3 _ 1 8 Tryz.underlying62 info_int rfl (by decide) w ((Evo.refl _).alloc _) [] l _ _ rfl rfl ⟨World.ownsRow_made w #[] 0 (Ij _) (Mj _) (by simp)⟩ (HR.out.at ((Evo.refl _).alloc _)) HK.out H1.out ?c1 ?c2 ?_)
  case c1=>simp; omega
  case c2=>simpa using hl
  intro v' w1 hown hbl hg;have HW:=Hj (⟨hown,hbl⟩:Own w1 w.heap.size 3 1 v' ([]++l).length ([]++l).flatten /\ Evo w w1);clear hown hg hbl
  go_wp2_with fail
  go_ret
  exact ⟨_,rfl,HW.out.1,HW.out.2⟩
theorem CRow.slu {P:Program} {f:FuncId} {args:Array Value} {h:Vw} {e:TypeId} {k:Nat} {l:List (List Value)} (hc:CRow P f args h e k (λ_ rows=>rows=l)):CRow P f args h e k (λv rows=>(∃ u,v=sL u) /\ rows=l):=by
 intro a1 a2 a3 a4;refine (hc a1 a2 a3 a4).mono ?_;rintro en w' ⟨v,Bo,h1,h2,h3,h4,r,h5,rfl⟩;obtain ⟨A,c,rfl,-,-⟩:=nY h5;exact ⟨_,Bo,h1,h2,h3,h4,r,h5,⟨.slice A r.length c,rfl⟩,rfl⟩
theorem c_cloneI {h:Vw} {v:Value} {l:List Int} (hr:RS h 1 v (lY l)) (hl:l.length <= 1000000):CRow Tryz.prog 81 #[v] h 3 1 (λv rows=>(∃ u,v=sL u) /\ rows=lY l) :=
 CRow.slu (CRow.of_own (int_len l) (clone_int v (lY l) h.w (Sl.of_rs hr) (int_len _) (int_one _) (by rw [Gj]; omega)))
structure PathOk (l:List Int) (m:Nat):Prop where
 rise:l.Pairwise (· < ·)
 lo:∀ x∈l,0 <= x
 hi:∀ x∈l,x <= (m:Int)
theorem rise_at {l:List Int} (h:l.Pairwise (· < ·)) {i j:Nat} {x y:Int} (hij:i < j) (hx:l[i]?=some x) (hy:l[j]?=some y):x < y:=by
 obtain ⟨a,ea⟩:=Qj.1 hx;obtain ⟨b,eb⟩:=Qj.1 hy
 have:=List.pairwise_iff_getElem.1 h i j a b hij
 rw [ea,eb] at this;exact this
theorem navCheck_any (f:Fm) (ρ:List Int) (lv:Nat -> Nat) (A:Option Addr) (n c:Nat) (B:Option Addr) (m d:Nat) (va:List Vl) (A1:Option Addr) (c1:Nat) (path:List Int) (A2:Option Addr) (c2:Nat) (at_:Int) (h:Vw) (hok:OkFm f ρ lv) (hf:IsForm h (.slice A n c) (.slice B m d) f) (hn:n=f.fields.length) (hm:m=f.pages.length)
  (hv:RS h 3 (.slice A1 n c1) (kZ va)) (la:va.length=n) (ov:∀ x∈va,OkV x) (hp:RS h 1 (.slice A2 path.length c2) (lY path)) (lp:path.length <= 100) (pk:PathOk (path++[at_]) m) :
  C0 Tryz.prog 31 #[.agg #[.slice A n c,.slice B m d],.slice A1 n c1,.agg #[Vi at_,.slice A2 path.length c2,.bool (at_ == (m:Int))]] h (λr _=>r=Vi 0):=by
 have hC:=λH q=>shCheck_any f ρ lv A n c B m d H hok q hn;have few:=hok.fields.few;have hck:=λx (hx:x∈va) H=>check_okv x H (ov x hx);have hcl:=λH (q:RS H 1 (.slice A2 path.length c2) (lY path))=>c_cloneI q (by omega);have hpl:(lY path).length=path.length:=Gj _;have hl0:=pk.lo;have hl1:=pk.hi;have hl2:=pk.rise;have hrw:lY path++[[Vi at_]]=lY (path++[at_]):=by simp [lY]
 have hll:(path++[at_]).length=path.length + 1:=by simp
 generalize hL:path++[at_]=l at *;generalize hnp:path.length=np at *;refine yQ Tryz.func31 λhbx hbad Q hQ=>?_;refine go2 35 [.own,.own,.b 1 0,.cl 41 #[.agg #[.slice A n c,.slice B m d]] (Vi 0),.b 1 0] [] ?_ (ho:=(Aj (λH sH=>hC _ (hf.sees sH)) (trivial)));intro b1 b2;refine aV (t:=(n:Int) != (n:Int)) ((by simp)) ?_;refine go0 11 [] [] ?_;refine gV [0,1,0,1,1,1] [.block 0,.seq [1,1,1,1]] (λ(k:Nat) X=>∃ (W3:Vw) ,X W3 [(3,Vp b1),(5,Vp b2),(25,.slice A1 n c1),(26,Vi (n:Int)),(27,Vi (k:Int))] [.box b2 [Vi at_,.slice A2 np c2,.bool (at_ == (m:Int))],.box b1 [.slice A n c,.slice B m d]] [] /\ Sees h W3 /\ (k <= n)) (λk=>n - k) (0) (λX q=>⟨h,q _ _ _ _ ⟨rfl,by kernel_rfl⟩,Sees.refl _,Mj _⟩) ?_;rintro k a w ⟨W3,hJ,S4,hk⟩; refine lV hJ ?_; clear hJ a w;refine go0 6 [] [] ?_;rcases (by omega:k < n\/k=n) with hlt | hke
 ·obtain ⟨x,hx⟩:∃ x,va[k]?=some x:=⟨_,Fj (by omega)⟩;have hrow:=vlRows_get hx;have hckx:=λH=>hck x (Ej hx) H;refine rV (t:=decide ((k:Int) < (n:Int))) (Kj (by omega)) ?_;refine go0 6 [] [] ?_;obtain ⟨b5,o6,rfl,-,c7⟩:=RS.row hv (hrow);refine zQ (c7.sees S4) ?_;refine go1 27 [.ix b5 o6 n c1 k,.f 0 0,.own,.b 0 0,.b 0 0,.cl 85 #[.agg #[Vi x.k,Vi x.n,.string x.s]] (Vi 0)] [(36,Vi (IntKind.i64.wrap ((k:Int) + 1)),Vi ((k:Int) + 1))] ?_ (ho:=(Aj (by first | omega | (simp; omega)) (Aj (λH sH=>hckx _) (trivial)))) (hc:=(Aj (jJ (by omega) (by omega)) (trivial)));intro b8;exact qV (k + 1) (λX q=>⟨W3,q _ _ _ _ ⟨rfl,by kernel_rfl⟩,S4,by omega⟩)
 ·skip;refine aV (t:=decide ((k:Int) < (n:Int))) (Jj (by omega)) ?_
  refine go0 2 [] [] ?_;refine fV ?_;refine go0 9 [] [] ?_;refine oV 9 1 [.pu,.ld 1 1,.e (λgh=>sL (gh 2)) 0 (λgh=>.row (sL (gh 2)) 3 1 (lY path)),.pu,.ld 1 0,.f (λgh=>.slice (some ⟨(vJ (gh 5)),0,none⟩) 1 1) (λgh hh=>Cells hh (vJ (gh 5)) 0 [Vi at_]),.e (λgh=>sL (gh 6)) 0 (λgh=>.row (sL (gh 6)) 3 1 ((lY path)++[[Vi at_]])),.pu,.pu] [(2,false),(5,true),(6,false)] (Aj (λ_ _ _ s c=>c.sees s) (trivial)) ?_ ?_
  ·intro R hT hA hmono;refine Aj (r_callown hT hA hmono ⟨λ_ _=>by kernel_rfl,λ_ _=>by kernel_rfl,λ_ _=>by kernel_rfl⟩ (by kernel_rfl) 39 (λu=>sL u) [1] 2 (by kernel_rfl) (λ_=>by kernel_rfl) 0 (GN R 0) (by kernel_rfl) (by kernel_rfl) (by kernel_rfl) 3 1 (λgh=>lY path) (λ_=>by kernel_rfl) (λ_=>by kernel_rfl) (λ_ _=>rfl) 81 (λgh=>#[.slice A2 np c2]) (λ_ _=>by kernel_rfl) (λgh H sH fH=>hcl _ (hp.sees (S4.trans sH)))) ?_;refine Aj (dY hT hA hmono 42 (λg=>Vs g 1 1) [4] 5 (λgh=>[Vi at_]) 3 (λgh zb zH zc zj zq zhq zhe=>nX (i:=5) (k:=0) (f:=λgh hh=>Cells hh (vJ (gh 5)) 0 [Vi at_]) (by kernel_rfl) (by kernel_rfl) zc zj zq zhq zhe)) ?_;refine Aj (zX hT hA hmono 43 [2,5] 6 0 (GN R 0) (λgh=>sL (gh 2)) 62 3 1 (λgh=>lY path) (λgh=>[[Vi at_]]) (.tmp 39) (.tmp 42) (λgh=>(vJ (gh 5))) 1 1 0 5 (λgh hh=>Cells hh (vJ (gh 5)) 0 [Vi at_]) (λ_ _ c=>c) Tryz.underlying62 (zv:=Vi 0) (bytes:=8) (λ_=>by constructor <;> (simp; omega))) ?_
   trivial
  rintro u39 b10 v43 W11 S12 ⟨f9,-⟩;replace f9:Cells W11 b10 0 [Vi at_]:=f9;refine zQ f9 ?_;refine go0 2 [] [] ?_;refine eV [(3,Vp b1),(5,Vp b2),(11,Vi (-1)),(43,sL v43),(44,Vi (sN v43:Int)),(45,Vi 0)] [.row (sL v43) 3 1 ((lY path)++[[Vi at_]]),.box b2 [Vi at_,.slice A2 np c2,.bool (at_ == (m:Int))],.box b1 [.slice A n c,.slice B m d]] [(b10,0,[Vi at_])] ?_;rw [hrw];have hlr:(lY l).length=l.length:=Gj _;refine cV 0 (v:=sL v43) (e:=3) (kk:=1) (l:=lY l) ?_; intro Ap cp hE_v43 hc_v43 hm_v43;rw [show (lY l).length=(np + 1) from by first | omega | (simp; done) | (simp; omega)] at hE_v43 hc_v43;rw [hE_v43];have hE43:(sN v43:Int)=((np + 1:Nat):Int):=by simp only [Kk] at hE_v43; rw [hE_v43.2.1]
  refine pV 44 (v:=Vi (sN v43:Int)) (v':=Vi ((np + 1:Nat):Int)) (Dj (Value.int .i64) hE43) ?_;refine dV 0 (v:=.slice Ap (np + 1) cp) (e:=3) (kk:=1) (l:=lY l) ?_; intro W13 S14 fr;refine gV [0,1,0,1,1,1,1,1] [.block 2,.seq [1,1,1,1,1,1]] (λ(j:Nat) X=>∃ (W15:Vw) (last:Int),X W15 [(3,Vp b1),(5,Vp b2),(43,.slice Ap (np + 1) cp),(44,Vi ((np + 1:Nat):Int)),(45,Vi (j:Int)),(11,Vi last)] [.box b2 [Vi at_,.slice A2 np c2,.bool (at_ == (m:Int))],.box b1 [.slice A n c,.slice B m d]] [(b10,0,[Vi at_])] /\ Sees W13 W15 /\ (j <= np + 1) /\ (∀ x,l[j]?=some x -> last < x)) (λj=>np + 1 - j) (0) (λX q=>⟨W13,-1,q _ _ _ _ ⟨rfl,by kernel_rfl⟩,Sees.refl _,Mj _,λx hx=>by have:=hl0 x (Ej hx); omega⟩) ?_;rintro j a w ⟨W15,last,hJ,S16,hj,hlast⟩; refine lV hJ ?_; clear hJ a w;refine go0 6 [] [] ?_;rcases (by omega:j < np + 1\/j=np + 1) with hjl | hje
  ·obtain ⟨x,hx⟩:∃ x,l[j]?=some x:=⟨_,Fj (by omega)⟩;have hrow:=rk_row hx;have q1:=hlast x hx;have q2:=hl1 x (Ej hx);refine rV (t:=decide ((j:Int) < ((np + 1:Nat):Int))) (Kj (by omega)) ?_;refine go0 6 [] [] ?_;obtain ⟨b17,o18,rfl,-,c19⟩:=RS.row fr (hrow);refine zQ (c19.sees S16) ?_;refine go0 33 [.ix b17 o18 (np + 1) cp j,.f 0 0,.b 1 1] [(51,.bool (decide (x <= last)),.bool false),(57,.bool (decide (x > (m:Int))),.bool false),(60,Vi (IntKind.i64.wrap ((j:Int) + 1)),Vi ((j:Int) + 1))] ?_ (ho:=(Aj (by first | omega | (simp; omega)) (trivial))) (hc:=(Aj (Dj Value.bool (Jj (by omega))) (Aj (Dj Value.bool (Jj (by omega))) (Aj (jJ (by omega) (by omega)) (trivial)))));exact qV (j + 1) (λX q=>⟨W15,x,q _ _ _ _ ⟨rfl,by kernel_rfl⟩,S16,by omega,λy hy=>rise_at hl2 (Nat.lt_succ_self j) hx hy⟩)
  ·skip;refine aV (t:=decide ((j:Int) < ((np + 1:Nat):Int))) (Jj (by omega)) ?_
   refine go0 2 [] [] ?_;refine fV ?_;refine go0 25 [.b 0 2,.b 0 0,.b 1 1] [(69,.bool ((at_ == (m:Int)) != (at_ == (m:Int))),.bool false)] ?_ (hc:=(Aj (Dj Value.bool (by simp)) (trivial)));refine hQ.to [Vi 0] (λH sH=>?_);exact rfl
def jW (fs:List Fd) (va:List Vl) (l:List ByteArray):List ByteArray:=l.filter λs=>Bool.not (decide ((va.getD (jQ fs s).toNat zV).k <= 3))
theorem lackN_snoc (fs:List Fd) (va:List Vl) (l:List ByteArray) (s:ByteArray):jW fs va (l++[s])=jW fs va l++if (va.getD (jQ fs s).toNat zV).k <= 3 then [] else [s]:=by
 unfold jW;rw [List.filter_append]
 by_cases g:(va.getD (jQ fs s).toNat zV).k <= 3
 ·rw [Cj g,List.filter_cons_of_neg (by rw [Kj g]; exact Bw)]; rfl
 ·rw [Bj g,List.filter_cons_of_pos (by rw [Jj g]; rfl)]; rfl
theorem lackN_len (fs:List Fd) (va:List Vl) (l:List ByteArray):(jW fs va l).length <= l.length:=List.length_filter_le _ _
theorem known_dec (v:Vl) (ho:OkV v) (h:Vw):C0 Tryz.prog 60 #[v.val] h (λr _=>r=.bool (decide (v.k <= 3))):=by
 by_cases g:v.k <= 3
 ·rw [Kj g];rcases ho with q | rfl | ⟨q,-⟩
  ·exact c_kn v.k v.n v.s h q
  ·exact absurd g (by decide)
  ·omega
 ·rw [Jj g];exact known_no v h g (ok_kinds ho).1
theorem navLacks_any (f:Fm) (ρ:List Int) (lv:Nat -> Nat) (A:Option Addr) (n c:Nat) (B:Option Addr) (m d:Nat) (va:List Vl) (A1:Option Addr) (c1:Nat) (at_:Nat) (p:Pg) (h:Vw) (hok:OkFm f ρ lv) (hf:IsForm h (.slice A n c) (.slice B m d) f) (hn:n=f.fields.length) (hm:m=f.pages.length)
  (hv:RS h 3 (.slice A1 n c1) (kZ va)) (la:va.length=n) (ov:∀ x∈va,OkV x) (hpg:f.pages[at_]?=some p) :
  C0 Tryz.prog 80 #[.agg #[.slice A n c,.slice B m d],.slice A1 n c1,Vi (at_:Int)] h (λr h'=>∃ A c,r=.tuple #[.slice A (jW f.fields va p.fields).length c,Vi 0] /\ RS h' 1 (.slice A (jW f.fields va p.fields).length c) (bZ (jW f.fields va p.fields))):=by
 have m1:=hok.pages.one;have hC:∀ H,IsForm H (.slice A n c) (.slice B m d) f -> RS H 3 (.slice A1 n c1) (kZ va) -> C0 Tryz.prog 31 #[.agg #[.slice A n c,.slice B m d],.slice A1 n c1,.agg #[Vi 0,.slice none 0 0,.bool false]] H (λr _=>r=Vi 0):=λH q1 q2=>by
  have:=navCheck_any f ρ lv A n c B m d va A1 c1 [] none 0 0 H hok q1 hn hm q2 la ov (RS.nil H 1) (by decide) ⟨List.pairwise_singleton _ _,λx hx=>by rw [Oj.1 hx]; omega,λx hx=>by rw [Oj.1 hx]; omega⟩
  rw [show ((0:Int) == (m:Int))=false from Lj.2 (by omega)] at this;exact this
 have few:=hok.fields.few;have hF:=λH s i q hp=>find_yes f.fields (.slice A n c) s i H q (by omega) hp;have hhere:=hok.pages.here p (Ej hpg);have hpf:=hok.pages.fl p (Ej hpg);have hatm:at_ < m:=by rw [hm]; exact (Qj.1 hpg).1
 obtain ⟨us,ws,B2,d2,e2,-,hpr,hps,hpa,-,-⟩:=sX hf.pages;simp only [Kk] at e2;obtain ⟨rfl,-,rfl⟩:=e2;rw [<- hm] at hpr;obtain ⟨Au,cu,Bu,mu,du,hprow,hrs,-⟩:=pg_at hps hpa hpg;have hlk:=λk=>lackN_len f.fields va (p.fields.take k);have hst:(bZ p.fields).length=p.fields.length:=Gj _;generalize hpl:p.fields.length=np at *;refine yQ Tryz.func80 λhbx hbad Q hQ=>?_;refine go1 54 [.own,.b 0 0,.cl 31 #[.agg #[.slice A n c,.slice B m d],.slice A1 n c1,.agg #[Vi 0,Vz,.bool false]] (Vi 0),.b 0 1,.b 0 1] [(22,.bool (decide ((at_:Int) < 0)),.bool false),(28,.bool (decide ((at_:Int) ≥ (m:Int))),.bool false)] ?_ (ho:=(Aj (λH sH=>hC _ (hf.sees sH) (hv.sees sH)) (trivial))) (hc:=(Aj (Dj Value.bool (Jj (by omega))) (Aj (Dj Value.bool (Jj (by omega))) (trivial))));intro b1;obtain ⟨b2,o3,rfl,-,c4⟩:=RS.row hpr (hprow);refine zQ (c4.sees (Sees.refl _)) ?_;refine go0 8 [.ix b2 o3 m d at_,.f 0 1] [] ?_ (ho:=(Aj (by first | omega | (simp; omega)) (trivial)));refine kV 9 1 ?_;refine gV [0,1,0,1,1,1,1] [.block 0,.seq [1,1,1,1,1]] (λ(k:Nat) X=>∃ (W5:Vw) (v:Value),X W5 [(1,.slice A1 n c1),(3,Vp b1),(35,.slice Au np cu),(36,Vi (np:Int)),(37,Vi (k:Int)),(9,v)] [.row v 9 1 (bZ (jW f.fields va (p.fields.take k))),.box b1 [.slice A n c,.slice (some ⟨b2,o3,none⟩) m d]] [(b2,o3 + at_ * 8,[Vt p.name,.slice Au np cu,Vi p.skip.op,Vi p.skip.k,Vi p.skip.n,.string p.skip.s,.string p.skip.nm,.slice Bu mu du])] /\ Sees h W5 /\ (k <= np)) (λk=>np - k) (0) (λX q=>⟨h,(Vz),q _ _ _ _ ⟨rfl,by kernel_rfl⟩,Sees.refl _,Mj _⟩) ?_;rintro k a w ⟨W5,v,hJ,S6,hk⟩; refine lV hJ ?_; clear hJ a w;refine go0 6 [] [] ?_;rcases (by omega:k < np\/k=np) with hlt | hke
 ·obtain ⟨s,hs⟩:∃ s,p.fields[k]?=some s:=⟨_,Fj (by omega)⟩;have hsr:=str_row hs;have hsn:=lackN_snoc f.fields va (p.fields.take k) s;rw [<- fZ _ k s hs] at hsn;have hl2:=hlk k;rw [Bk] at hl2;have hsl:(bZ (jW f.fields va (p.fields.take k))).length=(jW f.fields va (p.fields.take k)).length:=Gj _;obtain ⟨i,x,hi,hfi⟩:∃ (i:Nat) (x:Vl),jQ f.fields s=(i:Int) /\ va[i]?=some x:=by
   have q:=hhere s (Ej hs);rcases findF_lt f.fields s with g | ⟨i,g,e,hg,-⟩
   ·omega
   ·exact ⟨i,_,e,Fj (by rw [la,hn]; exact (Qj.1 hg).1)⟩
  have hF1:=λH q=>hF H s i q hi;have hrow:=vlRows_get hfi;have hil:i < n:=by rw [<- la]; exact (Qj.1 hfi).1
  have hkn:=λH=>known_dec x (ov x (Ej hfi)) H;rw [hi,Int.toNat_natCast,Vk,hfi,Wv] at hsn
  by_cases g:x.k <= 3
  ·rw [Cj g,List.append_nil] at hsn;rw [Kj g] at hkn;refine rV (t:=decide ((k:Int) < (np:Int))) (Kj (by omega)) ?_;refine go0 6 [] [] ?_;obtain ⟨b7,o8,rfl,-,c9⟩:=RS.row hrs (hsr);refine zQ (c9.sees S6) ?_;refine go0 22 [.ix b7 o8 np cu k,.f 0 0,.b 1 0,.cl 96 #[.slice A n c,.string s] (.tuple #[Vi (i:Int),Vi 0])] [] ?_ (ho:=(Aj (by first | omega | (simp; omega)) (Aj (λH sH=>hF1 _ ((hf.sees (S6.trans sH))).fields) (trivial))));obtain ⟨b10,o11,rfl,-,c12⟩:=RS.row hv (hrow);refine zQ (c12.sees S6) ?_;refine go0 14 [.ix b10 o11 n c1 i,.f 0 0,.cl 60 #[.agg #[Vi x.k,Vi x.n,.string x.s]] (.bool true)] [(58,Vi (IntKind.i64.wrap ((k:Int) + 1)),Vi ((k:Int) + 1))] ?_ (ho:=(Aj (by first | omega | (simp; omega)) (Aj (λH sH=>hkn _) (trivial)))) (hc:=(Aj (jJ (by omega) (by omega)) (trivial)));refine eV [(1,.slice (some ⟨b10,o11,none⟩) n c1),(3,Vp b1),(35,.slice (some ⟨b7,o8,none⟩) np cu),(36,Vi (np:Int)),(9,v),(37,Vi ((k:Int) + 1))] [.row v 9 1 (bZ (jW f.fields va (p.fields.take k))),.box b1 [.slice A n c,.slice (some ⟨b2,o3,none⟩) m d]] [(b2,o3 + at_ * 8,[Vt p.name,.slice (some ⟨b7,o8,none⟩) np cu,Vi p.skip.op,Vi p.skip.k,Vi p.skip.n,.string p.skip.s,.string p.skip.nm,.slice Bu mu du])] ?_;exact qV (k + 1) (λX q=>⟨W5,v,q _ _ _ _ (tY (by rw [hsn])),S6,by omega⟩)
  ·skip;rw [Bj g] at hsn
   rw [Jj g] at hkn;refine rV (t:=decide ((k:Int) < (np:Int))) (Kj (by omega)) ?_;refine go0 6 [] [] ?_;obtain ⟨b13,o14,rfl,-,c15⟩:=RS.row hrs (hsr);refine zQ (c15.sees S6) ?_;refine go0 22 [.ix b13 o14 np cu k,.f 0 0,.b 1 0,.cl 96 #[.slice A n c,.string s] (.tuple #[Vi (i:Int),Vi 0])] [] ?_ (ho:=(Aj (by first | omega | (simp; omega)) (Aj (λH sH=>hF1 _ ((hf.sees (S6.trans sH))).fields) (trivial))));obtain ⟨b16,o17,rfl,-,c18⟩:=RS.row hv (hrow);refine zQ (c18.sees S6) ?_;refine wV 11 [.ix b16 o17 n c1 i,.f 0 0,.cl 60 #[.agg #[Vi x.k,Vi x.n,.string x.s]] (.bool false),.fix] [] ?_ (ho:=(Aj (by first | omega | (simp; omega)) (Aj (λH sH=>hkn _) (trivial))));intro b19 W20 S21;refine goa0 9 [.ap 0 0 (bZ (jW f.fields va (p.fields.take k))) [[Vt s]]] [(58,Vi (IntKind.i64.wrap ((k:Int) + 1)),Vi ((k:Int) + 1))] ?_ (ho:=(Aj (by constructor <;> (simp; omega)) (trivial))) (hc:=(Aj (jJ (by omega) (by omega)) (trivial)));intro v57 W22 S23;refine eV [(1,.slice (some ⟨b16,o17,none⟩) n c1),(3,Vp b1),(35,.slice (some ⟨b13,o14,none⟩) np cu),(36,Vi (np:Int)),(9,sL v57),(37,Vi ((k:Int) + 1))] [.row (sL v57) 9 1 ((bZ (jW f.fields va (p.fields.take k)))++[[Vt s]]),.box b1 [.slice A n c,.slice (some ⟨b2,o3,none⟩) m d]] [(b2,o3 + at_ * 8,[Vt p.name,.slice (some ⟨b13,o14,none⟩) np cu,Vi p.skip.op,Vi p.skip.k,Vi p.skip.n,.string p.skip.s,.string p.skip.nm,.slice Bu mu du])] ?_;exact qV (k + 1) (λX q=>⟨W22,sL v57,q _ _ _ _ (tY (by rw [hsn]; simp [bZ])),(S6.trans (S21.trans S23)),by omega⟩)
 ·skip;have hta:p.fields.take k=p.fields:=by rw [hke, <- hpl,Qk]
  rw [hta];have hrl:(bZ (jW f.fields va p.fields)).length=(jW f.fields va p.fields).length:=Gj _;refine cV 0 (v:=v) (e:=9) (kk:=1) (l:=bZ (jW f.fields va p.fields)) ?_; intro Ar cr hE_v hc_v hm_v;rw [show (bZ (jW f.fields va p.fields)).length=(jW f.fields va p.fields).length from by first | omega | (simp; done) | (simp; omega)] at hE_v hc_v;rw [hE_v];refine aV (t:=decide ((k:Int) < (np:Int))) (Jj (by omega)) ?_;refine go0 2 [] [] ?_;refine fV ?_;refine go0 10 [] [] ?_;refine eV [(6,.slice Ar ((jW f.fields va p.fields).length) cr),(7,Vi 0)] [.row (.slice Ar ((jW f.fields va p.fields).length) cr) 9 1 (bZ (jW f.fields va p.fields)),.box b1 [.slice A n c,.slice (some ⟨b2,o3,none⟩) m d]] [(b2,o3 + at_ * 8,[Vt p.name,.slice Au np cu,Vi p.skip.op,Vi p.skip.k,Vi p.skip.n,.string p.skip.s,.string p.skip.nm,.slice Bu mu du])] ?_;refine hQ.toJ [.slice Ar ((jW f.fields va p.fields).length) cr,Vi 0] [] (λa w hJ=>?_);have fr:=hJ.j.rowOut0 (v:=.slice Ar ((jW f.fields va p.fields).length) cr) (e:=9) (k:=1) (l:=bZ (jW f.fields va p.fields)) 0 (by kernel_rfl) rfl;exact ⟨Ar,cr,rfl,fr⟩
theorem pathOk_one (m:Nat):PathOk ([]++[((0:Nat):Int)]) m:=⟨List.pairwise_singleton _ _,λx hx=>by have:=Oj.1 hx; omega,λx hx=>by have:=Oj.1 hx; omega⟩
theorem PathOk.snoc {l:List Int} {m:Nat} {t a:Nat} (h:PathOk (l++[(t:Int)]) m) (hta:t < a) (ham:a <= m):PathOk ((l++[(t:Int)])++[(a:Int)]) m:=by
 refine ⟨List.pairwise_append.2 ⟨h.rise,List.pairwise_singleton _ _,λx hx y hy=>?_⟩,λx hx=>?_,λx hx=>?_⟩
 ·rw [Oj.1 hy];rcases Sj.1 hx with q | q
  ·have:=(List.pairwise_append.1 h.rise).2.2 x q (t:Int) (by simp)
   omega
  ·rw [Oj.1 q]; omega
 ·rcases Sj.1 hx with q | q
  ·exact h.lo x q
  ·rw [Oj.1 q]; omega
 ·rcases Sj.1 hx with q | q
  ·exact h.hi x q
  ·rw [Oj.1 q]; omega
theorem CRow.c0 {P:Program} {f:FuncId} {args:Array Value} {h:Vw} {e:TypeId} {k:Nat} {R:Value -> List (List Value) -> Prop} (hc:CRow P f args h e k R):C0 P f args h (λv h'=>∃ l u,v=sL u /\ RS h' k (sL u) l /\ R v l):=by
 intro a1 a2 a3 a4;refine (hc a1 a2 a3 a4).mono ?_;rintro e w' ⟨v,Bo,h1,h2,h3,h4,l,h5,h6⟩;obtain ⟨A,c,rfl,-,-⟩:=nY h5;exact ⟨_,Bo,h1,h2,h3,h4,l,.slice A l.length c,rfl,row_rs h5 (λb hb hm=>by have:=a4 b hm; have:=(h5.1.lt b hb).1; omega),h6⟩
def RSn (h:Vw) (k:Nat) (u:Value) (n:Nat) (l:List (List Value)):Prop:=sN u=n /\ RS h k (sL u) l
theorem RSn.sees {h h':Vw} {k n:Nat} {u:Value} {l:List (List Value)} (c:RSn h k u n l) (s:Sees h h'):RSn h' k u n l:=⟨c.1,c.2.sees s⟩
end Go.Proofs.YthgcgciceejicaaGreatDoor
