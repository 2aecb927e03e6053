/-
  slices.SortStableFunc at places, by their ranks: a row of the caller's own, fewer than twenty. (Imports the seat's Ins text: wip/ins.sh.)
-/
import Derived.Test.YthckljafinhepaaGreatZP9
import Derived.Test.YthckljafinhepaaGreatZP37
import Derived.Test.YthckljafinhepaaGreatZP36
import Derived.Test.YthckljafinhepaaGreatZP40
import Derived.Sort.LotA
import Derived.BigQuiet
import Derived.Deep.QuietTactic
import Derived.Test.YthckljafinhepaaGreatZP28
import Derived.Test.YthckljafinhepaaGreatZP27
import Derived.Test.YthckljafinhepaaGreatZP39
import Derived.Test.YthckljafinhepaaGreatZP8
set_option maxRecDepth 100000
namespace Go.Proofs.YthckljafinhepaaGreat
open Go.RowKit Go.Sort Go.Shelf
set_option linter.unusedVariables false
set_option maxHeartbeats 1000000 in
theorem ordc_any {n:Nat} (ρ:List Int) (b bR x y:Nat) (hx:x < n) (hy:y < n) (w:World) (hR:w.cell? ⟨bR,0,none⟩=some (.slice (some ⟨b,0,none⟩) n n)) (hc:∀ i,i < n→w.cell? ⟨b,i,none⟩=some (.int .i64 (ρ.getD i 0))) :
  Calls Tryz.prog 94 #[.int .i64 (x:Int),.int .i64 (y:Int),.pointer (some ⟨bR,0,none⟩)] w fun e w'=>e=.returned (.int .i64 (cmpI (ρ.getD x 0) (ρ.getD y 0)))∧∃ q,w'=w.drewN q:=by
 have cx:=hc x hx
 have cy:=hc y hy
 clear hc
 generalize ρ.getD x 0=rx at *
 generalize ρ.getD y 0=ry at *
 have x1:(x:Int) < (n:Int):=by omega
 have y1:(y:Int) < (n:Int):=by omega
 go_enter Tryz.func94,Tryz.ntmps94
 go_wp2_with fail
 go_quiet ((go_at_call 95; exact Calls.quiet_of_same ((cmp_int rx ry _).mono fun _ _ h=>⟨h.1,h.2.symm⟩)))
 go_wp2_with fail
 go_ret
 exact ⟨rfl,_,rfl⟩
abbrev Pl (n:Nat):={ k:Nat // k < n }
def encP {n:Nat} (k:Pl n):Value:=.int .i64 (k.val:Int)
def cfP {n:Nat} (ρ:List Int) (x y:Pl n):Int:=cmpI (ρ.getD x.val 0) (ρ.getD y.val 0)
theorem cfP_lt {n:Nat} (ρ:List Int) (x y:Pl n):ltOf (cfP ρ) x y=decide (ρ.getD x.val 0 < ρ.getD y.val 0):=by
 unfold ltOf cfP cmpI
 generalize ρ.getD x.val 0=a
 generalize ρ.getD y.val 0=b
 by_cases h:a < b
 ·rw [if_pos h,decide_eq_true h]; rfl
 ·rw [if_neg h,decide_eq_false h]
  split <;> rfl
theorem cfP_swo {n:Nat} (ρ:List Int):SWO (ltOf (cfP (n:=n) ρ)) where
 irrefl x:=by rw [cfP_lt]; simp
 trans x y z h1 h2:=by
  rw [cfP_lt] at *
  exact decide_eq_true (by have:=of_decide_eq_true h1; have:=of_decide_eq_true h2; omega)
 ntrans x y z h1 h2:=by
  rw [cfP_lt] at *
  exact decide_eq_false (by have:=of_decide_eq_false h1; have:=of_decide_eq_false h2; omega)
def ordA (ρ:List Int) (n:Nat) (hn:0 < n) (d:Array (Pl n)):Array (Pl n):=letI:Inhabited (Pl n):=⟨⟨0,hn⟩⟩; insertionSort (ltOf (cfP ρ)) d 0 n
def HoldsP {n:Nat} (hn:0 < n) (w:World) (g:Nat) (d:Array (Pl n)):Prop:=letI:Inhabited (Pl n):=⟨⟨0,hn⟩⟩; Holds encP w g 0 d
def putP {n:Nat} (hn:0 < n) (w:World) (g:Nat) (d:Array (Pl n)):World:=letI:Inhabited (Pl n):=⟨⟨0,hn⟩⟩; putRow encP w g 0 d
theorem putRow_map {α:Type} [Inhabited α] (enc:α→Value) (w:World) (b o:Nat) (d:Array α):putRow enc w b o d=putRow id w b o (d.map enc):=by
 unfold putRow
 have e:putCells enc o d=putCells id o (d.map enc):=by
  funext c
  unfold putCells
  congr 1
  funext k x
  rw [Array.size_map]
  by_cases h:o≤k∧k < o + d.size
  ·rw [if_pos h,if_pos h]
   have h1:k - o < d.size:=by omega
   rw [getElem!_pos d _ h1,getElem!_pos (d.map enc) _ (by rw [Array.size_map]; exact h1),Array.getElem_map]; rfl
  ·rw [if_neg h,if_neg h]
 rw [e]
theorem ins_any {n:Nat} (hn:0 < n) (hn20:n < 20) (ρ:List Int) (b bR g cap:Nat) (d:Array (Pl n)) (hd:d.size=n) (w:World) (hR:w.cell? ⟨bR,0,none⟩=some (.slice (some ⟨b,0,none⟩) n n)) (hc:∀ i,i < n→w.cell? ⟨b,i,none⟩=some (.int .i64 (ρ.getD i 0))) (hg1:bR≠g) (hg2:b≠g)
  (hH:HoldsP hn w g d) :
  Calls Tryz.prog 147 #[.slice (some ⟨g,0,none⟩) n cap,.int .i64 0,.int .i64 (n:Int),.func (.func 94) #[] #[.pointer (some ⟨bR,0,none⟩)]] w fun e w'=>e=.returned (.tuple #[])∧∃ k,w'=(putP hn w g (ordA ρ n hn d)).drewN k:=by
 letI:Inhabited (Pl n):=⟨⟨0,hn⟩⟩
 have lR:=World.block_lt_of_cell? w _ hR
 have lb:=World.block_lt_of_cell? w _ (hc 0 hn)
 have hcmp:CmpReads Tryz.prog 94 #[.pointer (some ⟨bR,0,none⟩)] (encP (n:=n)) (cfP ρ) g 0 d.size w:=by
  intro m os dk hdk x y
  have e1:∀ a:Addr,a.block < w.heap.size→a.block≠g→(sortWorld encP w g 0 m dk os).cell? a=w.cell? a:=fun a ha hag=>by
   unfold sortWorld
   rw [cell?_grow _ _ _ (by rw [size_putRow]; exact ha),cell?_putRow_other _ _ _ _ _ _ (.inl hag)]
   rfl
  exact ordc_any ρ b bR x.val y.val x.2 y.2 _ ((e1 ⟨bR,0,none⟩ lR hg1).trans hR) (fun i hi=>(e1 ⟨b,i,none⟩ lb hg2).trans (hc i hi))
 have:=Any.insertionSortCmpFunc_one Tryz.insInts encP (fun _=>rfl) (cfP ρ) 94 #[.pointer (some ⟨bR,0,none⟩)] g 0 cap 0 n d w (enters_of Tryz.func94 (by kernel_rfl) rfl) hcmp hH (Nat.zero_le _) (by omega) (by omega)
 rw [hd] at this
 exact this
set_option maxHeartbeats 1000000 in
theorem stable_any {n:Nat} (hn:0 < n) (hn20:n < 20) (ρ:List Int) (b bR g cap:Nat) (d:Array (Pl n)) (hd:d.size=n) (w:World) (hR:w.cell? ⟨bR,0,none⟩=some (.slice (some ⟨b,0,none⟩) n n)) (hc:∀ i,i < n→w.cell? ⟨b,i,none⟩=some (.int .i64 (ρ.getD i 0))) (hg1:bR≠g) (hg2:b≠g)
  (hH:HoldsP hn w g d) :
  Calls Tryz.prog 122 #[.slice (some ⟨g,0,none⟩) n cap,.int .i64 (n:Int),.func (.func 94) #[] #[.pointer (some ⟨bR,0,none⟩)]] w fun e w'=>e=.returned (.tuple #[])∧∃ k,w'=(putP hn w g (ordA ρ n hn d)).drewN k:=by
 have HI:=ins_any hn hn20 ρ b bR g cap d hd w hR hc hg1 hg2 hH
 have x1:(n:Int) < 20:=by omega
 clear hR hc hH
 generalize putP hn w g (ordA ρ n hn d)=W at *
 have HI:=Lib.hid HI
 go_enter Tryz.func122,Tryz.ntmps122
 go_wp2_with fail
 go_loopw [7,8] (fun a b wr=>a=.int .i64 0∧b=.int .i64 20∧wr=w) (fun _ _ _=>0)
 case atStart=>exact ⟨rfl,rfl,rfl⟩
 case round =>
  obtain ⟨rfl,rfl,rfl⟩:=hrel
  go_wp2_with fail
  with_reducible refine (HI.out).mono ?_
  rintro e w' ⟨rfl,k,rfl⟩
  go_wp2_with fail
  go_loopw [6] (fun a wr=>a=.int .i64 20∧wr=W.drewN k) (fun _ _=>0)
  case atStart=>exact ⟨rfl,rfl⟩
  case round =>
   obtain ⟨rfl,rfl⟩:=hrel
   go_wp2_with fail
   go_end0
   exact ⟨rfl,k,rfl⟩
theorem sort_any {n:Nat} (hn:0 < n) (hn20:n < 20) (ρ:List Int) (b bR g cap:Nat) (d:Array (Pl n)) (hd:d.size=n) (w:World) (hR:w.cell? ⟨bR,0,none⟩=some (.slice (some ⟨b,0,none⟩) n n)) (hc:∀ i,i < n→w.cell? ⟨b,i,none⟩=some (.int .i64 (ρ.getD i 0))) (hg1:bR≠g) (hg2:b≠g)
  (hH:HoldsP hn w g d) :
  Calls Tryz.prog 93 #[.slice (some ⟨g,0,none⟩) n cap,.func (.func 94) #[] #[.pointer (some ⟨bR,0,none⟩)]] w fun e w'=>e=.returned (.tuple #[])∧∃ k,w'=(putP hn w g (ordA ρ n hn d)).drewN k:=by
 have HI:=stable_any hn hn20 ρ b bR g cap d hd w hR hc hg1 hg2 hH
 clear hR hc hH
 generalize putP hn w g (ordA ρ n hn d)=W at *
 have HI:=Lib.hid HI
 go_enter Tryz.func93,Tryz.ntmps93
 go_wp2_with fail
 with_reducible refine (HI.out).mono ?_
 rintro e w' ⟨rfl,k,rfl⟩
 go_wp2_with fail
 go_end0
 exact ⟨rfl,k,rfl⟩
theorem ordA_perm (ρ:List Int) (n:Nat) (hn:0 < n) (d:Array (Pl n)) (hd:d.size=n):(ordA ρ n hn d).toList.Perm d.toList∧(ordA ρ n hn d).size=n∧∀ (i j:Nat) (x y:Pl n),i < j→(ordA ρ n hn d)[i]?=some x→(ordA ρ n hn d)[j]?=some y→ρ.getD x.val 0≤ρ.getD y.val 0:=by
 letI:Inhabited (Pl n):=⟨⟨0,hn⟩⟩
 obtain ⟨⟨h1,-,h2⟩,h3⟩:=insertionSort_holds (lt:=ltOf (cfP (n:=n) ρ)) (cfP_swo ρ) d 0 n (Nat.zero_le _) (by omega)
 have e1:(ordA ρ n hn d)=insertionSort (ltOf (cfP ρ)) d 0 n:=rfl
 have h1':(ordA ρ n hn d).size=n:=by rw [e1,h1,hd]
 have x1:(ordA ρ n hn d).extract 0 n=ordA ρ n hn d:=by have:=Array.extract_size (xs:=ordA ρ n hn d); rwa [h1'] at this
 have x2:d.extract 0 n=d:=by have:=Array.extract_size (xs:=d); rwa [hd] at this
 rw [← e1,x1,x2] at h2
 rw [← e1] at h3
 refine ⟨h2,h1',fun i j x y hij hx hy=>?_⟩
 obtain ⟨hi,rfl⟩:=Array.getElem?_eq_some_iff.1 hx
 obtain ⟨hj,rfl⟩:=Array.getElem?_eq_some_iff.1 hy
 have h4:=h3 i j (Nat.zero_le _) hij (by omega)
 rw [getElem!_pos _ i hi,getElem!_pos _ j hj,cfP_lt] at h4
 have:=of_decide_eq_false h4
 omega
def pX (ρ:List Int) (n:Nat):List Nat:=if hn:0 < n then ((ordA ρ n hn (Array.ofFn (n:=n) fun i=>⟨i.val,i.isLt⟩)).toList.map Subtype.val) else []
theorem ordL_spec (ρ:List Int) (n:Nat) (hn:0 < n):(pX ρ n).Perm (List.range n)∧∀ (i j x y:Nat),i < j→(pX ρ n)[i]?=some x→(pX ρ n)[j]?=some y→ρ.getD x 0≤ρ.getD y 0:=by
 obtain ⟨h1,h2,h3⟩:=ordA_perm ρ n hn (Array.ofFn (n:=n) fun i=>⟨i.val,i.isLt⟩) (by simp)
 have e:pX ρ n=((ordA ρ n hn (Array.ofFn (n:=n) fun i=>⟨i.val,i.isLt⟩)).toList.map Subtype.val):=by unfold pX; rw [dif_pos hn]
 rw [e]
 generalize ordA ρ n hn (Array.ofFn (n:=n) fun i=>⟨i.val,i.isLt⟩)=D at *
 constructor
 ·refine (h1.map Subtype.val).trans (List.Perm.of_eq ?_)
  refine List.ext_getElem? fun i=>?_
  rw [List.getElem?_map,Array.getElem?_toList]
  by_cases hi:i < n
  ·rw [List.getElem?_range hi]
   simp [hi]
  ·rw [List.getElem?_eq_none (by simp; omega),Array.getElem?_eq_none (by simp; omega)]; rfl
 ·intro i j x y hij hx hy
  rw [List.getElem?_map,Option.map_eq_some_iff] at hx hy
  obtain ⟨a,ha,rfl⟩:=hx
  obtain ⟨c,hc,rfl⟩:=hy
  rw [Array.getElem?_toList] at ha hc
  exact h3 i j a c hij ha hc
abbrev CSetW (P:Program) (f:FuncId) (args:Array Value) (w:World) (base g m cap:Nat) (e:TypeId) (kk:Nat) (l':List (List Value)):Prop :=
 Calls P f args w fun en w'=>en=.returned (.tuple #[])∧w.grownBy w' (some g)∧w'.heap.size=w.heap.size∧Ent.ok base w' (.row (.slice (some ⟨g,0,none⟩) m cap) e kk l')
section
variable {P:Program} {C:Fx} {E:List (Nat × Value)} {B:List Ent} {F:List Fac} {h:Vw} {a:Act} {w:World} {Q:Exit→Act→World→Prop} {c0:Code} {p:List Nat} {n:Nat} {ks:List Kt}
theorem x_callsetw {f:FuncId} {args:Array Value} {e:TypeId} {g m cap kk:Nat} {l l':List (List Value)} (hK:K C E B F h a w) (d i:Nat) (hB:B[i]?=some (.row (.slice (some ⟨g,0,none⟩) m cap) e kk l)) (hc:Ent.ok C.w0.heap.size w (.row (.slice (some ⟨g,0,none⟩) m cap) e kk l)→CSetW P f args w C.w0.heap.size g m cap e kk l')
  (hk:∀ w,callAt P C E (nX c0 p) ((nX c0 p).toList.drop n) d w=[.b true,.r (.ok (.enter f args) w)])
  (k:∀ a w,K C ((d,.tuple #[]) :: E) (B.set i (.row (.slice (some ⟨g,0,none⟩) m cap) e kk l')) F h a w→Goal P c0 Q (.ops p (n + 1)) ks a w):Goal P c0 Q (.ops p n) ks a w:=by
 obtain ⟨o,r,hl,hg,hd,hlt,hkn,hrun⟩:=aK hk
 have hr:=kK hl
 refine mJ hl (uQ hK.j.fits hg) (wpList_plain rfl fun KK hKK=>?_)
 unfold Oper.wp
 have hrun':∀ w,(execOp (evD E) { o with guard:=none }).run P w=.ok (.enter f args) w:=fun w=>by
  have:=hrun w
  unfold execOp at this ⊢
  exact this
 rw [tY (o:={ o with guard:=none }) hK.j.fits hkn,hrun']
 refine (hc (hK.j.ents _ (List.mem_of_getElem? hB))).mono ?_
 rintro e' w' ⟨rfl,h1,h2,h3⟩
 refine hKK _ _ ?_
 rw [hr]
 exact k _ _ ⟨(hK.j.setRow hB h1 h2 h3).putd _ hd hlt,hK.f⟩
theorem g_callsetw {s:Z} {f:FuncId} {args:Array Value} {e:TypeId} {g m cap kk:Nat} {l l':List (List Value)} (i:Nat) (hc:∀ a w,K C s.E s.B s.F h a w→Ent.ok C.w0.heap.size w (.row (.slice (some ⟨g,0,none⟩) m cap) e kk l)→CSetW P f args w C.w0.heap.size g m cap e kk l')
  (k:Go P C c0 Q h ((s.nx c0 (.tuple #[])).cB i (.row (.slice (some ⟨g,0,none⟩) m cap) e kk l'))) (hB:s.B[i]?=some (.row (.slice (some ⟨g,0,none⟩) m cap) e kk l):=by kernel_rfl) (hk:s.callOk P C c0 f args:=by intro _; kernel_rfl):Go P C c0 Q h s :=
 g_ops (bK hk).1 fun a w hK=>x_callsetw hK (s.d c0) i hB (hc a w hK) (bK hk).2 k.go
end
theorem natRows_flat (l:List Nat):(wW l).flatten=l.map fun (k:Nat)=>Value.int .i64 (k:Int):=by
 induction l with
 | nil=>rfl
 | cons a l ih=>show [Value.int .i64 (a:Int)]++(wW l).flatten=_; rw [ih]; rfl
theorem sort_set {n:Nat} (hn:0 < n) (hn20:n < 20) (ρ:List Int) (hρ:ρ.length=n) (b bR g cap base:Nat) (w:World) (bd:List Nat) (hR:Cells ⟨w,[]⟩ bR 0 [.slice (some ⟨b,0,none⟩) n n]) (hr:RS ⟨w,bd⟩ 1 (.slice (some ⟨b,0,none⟩) n n) (kY ρ)) (hgd:g∈bd) (hg1:bR≠g)
  (hok:Ent.ok base w (.row (.slice (some ⟨g,0,none⟩) n cap) 3 1 (wW (List.range n)))) :
  CSetW Tryz.prog 93 #[.slice (some ⟨g,0,none⟩) n cap,.func (.func 94) #[] #[.pointer (some ⟨bR,0,none⟩)]] w base g n cap 3 1 (wW (pX ρ n)):=by
 obtain ⟨k1,k2⟩:=hok
 have hlen:(wW (List.range n)).length=n:=by simp
 have k1n:=k1
 rw [hlen] at k1n
 have hbx:=row_box k1n
 have hgb:b≠g:=by
  rcases hr with ⟨A,c,e,-,-,-⟩ | ⟨b',off,c,e,-,-,-,hnb,-⟩
  ·simp only [Value.slice.injEq] at e; omega
  ·simp only [Value.slice.injEq,Option.some.injEq,Addr.mk.injEq] at e
   obtain ⟨⟨rfl,-,-⟩,-,-⟩:=e
   intro q; rw [q] at hnb; exact hnb hgd
 have hc:∀ i,i < n→w.cell? ⟨b,i,none⟩=some (.int .i64 (ρ.getD i 0)):=fun i hi=>by
  have hri:=rk_get (l:=ρ) (i:=i) (by omega)
  obtain ⟨b',off,e,-,hcs⟩:=hr.row hri
  simp only [Option.some.injEq,Addr.mk.injEq] at e
  obtain ⟨rfl,rfl,-⟩:=e
  have:=hcs.lies 0 _ rfl
  simpa using this
 have hRc:w.cell? ⟨bR,0,none⟩=some (.slice (some ⟨b,0,none⟩) n n):=by simpa using hR.lies 0 _ rfl
 have hD:(Array.ofFn (n:=n) fun i=>(⟨i.val,i.isLt⟩:Pl n)).size=n:=by simp
 have hH:HoldsP hn w g (Array.ofFn (n:=n) fun i=>⟨i.val,i.isLt⟩):=by
  letI:Inhabited (Pl n):=⟨⟨0,hn⟩⟩
  intro j hj
  rw [hD] at hj
  refine ⟨?_,hbx.free _⟩
  have:=hbx.cells j (.int .i64 (j:Int)) (by rw [natRows_flat,List.getElem?_map,List.getElem?_range hj]; rfl)
  rw [Nat.zero_add,this,getElem!_pos _ j (by rw [hD]; exact hj)]
  simp [encP]
 refine Calls.mono (sort_any hn hn20 ρ b bR g cap _ hD w hRc hc hg1 hgb hH) ?_
 rintro e w' ⟨rfl,k,rfl⟩
 have hO:(ordA ρ n hn (Array.ofFn (n:=n) fun i=>⟨i.val,i.isLt⟩)).size=n:=(ordA_perm ρ n hn _ hD).2.1
 have hvs:((ordA ρ n hn (Array.ofFn (n:=n) fun i=>⟨i.val,i.isLt⟩)).map encP)=((wW (pX ρ n)).flatten).toArray:=by
  rw [natRows_flat]
  unfold pX
  rw [dif_pos hn,List.map_map]
  apply Array.ext'
  simp [encP,Function.comp_def]
 have hll:(wW (pX ρ n)).flatten.length=n:=by
  have:=congrArg Array.size hvs
  rw [Array.size_map,hO,List.size_toArray] at this
  exact this.symm
 have hl0:(wW (List.range n)).flatten.length=n:=by rw [natRows_flat]; simp
 have hw:(putP hn w g (ordA ρ n hn (Array.ofFn (n:=n) fun i=>⟨i.val,i.isLt⟩))).drewN k=(Go.Sort.ahead w k).setCells g 0 (wW (pX ρ n)).flatten:=by
  letI:Inhabited (Pl n):=⟨⟨0,hn⟩⟩
  have h2:Holds id (Go.Sort.ahead w k) g 0 (wW (List.range n)).flatten.toArray:=fun j hj=>by
   have hj:j < (wW (List.range n)).flatten.length:=by simpa using hj
   refine ⟨?_,hbx.free _⟩
   rw [Nat.zero_add]
   show w.cell? ⟨g,j,none⟩=_
   rw [hbx.cells j _ (List.getElem?_eq_getElem hj),getElem!_pos _ _ (by simpa using hj)]; simp
  have:=setCells_putRow (Go.Sort.ahead w k) g 0 (wW (pX ρ n)).flatten 0 (wW (List.range n)).flatten.toArray (by rw [List.size_toArray,hll,hl0]; omega)
  rw [putRow_self id _ g 0 _ h2,setMany_all _ _ (by rw [List.size_toArray,hll,hl0])] at this
  rw [Nat.add_zero] at this
  rw [this]
  show (putRow encP w g 0 _).drewN k=_
  rw [putRow_map,hvs]
  rfl
 rw [hw]
 have k1':(Go.Sort.ahead w k).ownsRow base 3 1 (.slice (some ⟨g,0,none⟩) n cap) n (wW (List.range n)).flatten:=k1n
 obtain ⟨q1,q2⟩:=nY (wW (pX ρ n)).flatten 0 (wW (List.range n)).flatten (Go.Sort.ahead w k) k1' (by omega)
 have e:yX (wW (List.range n)).flatten 0 (wW (pX ρ n)).flatten=(wW (pX ρ n)).flatten:=by
  unfold yX
  rw [Nat.zero_add,hll,List.drop_eq_nil_of_le (by omega)]; simp
 rw [e] at q1
 have hol:(wW (pX ρ n)).length=(wW (List.range n)).length:=by
  rw [natRows_flat,List.length_map] at hll
  rw [List.length_map,hll,hlen]
 refine ⟨rfl,⟨q2.os,q2.tape,q2.output,q2.size,q2.block⟩,aZ _ _ _ _,?_,fun r hr=>by obtain ⟨x,-,rfl⟩:=List.mem_map.1 hr; rfl⟩
 rw [hol,hlen]; exact q1
end Go.Proofs.YthckljafinhepaaGreat
namespace Go.Proofs.YthckljafinhepaaGreat
open Go.RowKit
abbrev pdV:Vl:=⟨4,0,⟨#[]⟩⟩
structure Aw where
 nm:ByteArray
 key:Vl
 has:Vl
@[reducible] def anRow (p:Aw):List Value:=[.string p.nm,.int .i64 p.key.k,.int .i64 p.key.n,.string p.key.s,.int .i64 p.has.k,.int .i64 p.has.n,.string p.has.s]
abbrev tJ (l:List Aw):List (List Value):=l.map anRow
def Aw.hit (p:Aw) (s:ByteArray) (key:Vl):Bool:=p.nm.toList == s.toList && eqB p.key key
def askL (s:ByteArray) (key:Vl):List Aw→Vl
 | []=>pdV
 | p :: l=>if p.hit s key=true then p.has else askL s key l
def askV (l:List Aw) (s:ByteArray) (key:Vl):Vl:=if key.k≤3 then askL s key l else key
def gZ (s:ByteArray) (t:Int):Env→Vl
 | []=>⟨t,0,⟨#[]⟩⟩
 | p :: l=>if (p.1.toList == s.toList)=true then p.2 else gZ s t l
def gX (f:Fd) (inp:Env) (orc:List Aw) (kn:Env):Vl :=
 if f.kind=1 then gZ f.name f.ty inp else if f.kind=3 then askV orc f.name (mK kn f.src) else mK kn f.src
def stepW (fs:List Fd) (inp:Env) (orc:List Aw) (s:List Vl × Env) (i:Nat):List Vl × Env:=match fs[i]? with
 | some f=>(s.1.set i (gX f inp orc s.2),s.2++[(f.name,gX f inp orc s.2)])
 | none=>s
def runW (fs:List Fd) (inp:Env) (orc:List Aw) (os:List Nat):List Vl × Env:=os.foldl (stepW fs inp orc) (List.replicate fs.length zV,[])
theorem runW_snoc (fs:List Fd) (inp:Env) (orc:List Aw) (os:List Nat) (i:Nat):runW fs inp orc (os++[i])=stepW fs inp orc (runW fs inp orc os) i:=by unfold runW; rw [List.foldl_append]; rfl
theorem stepW_at {fs:List Fd} {i:Nat} {f:Fd} (hf:fs[i]?=some f) (inp:Env) (orc:List Aw) (s:List Vl × Env):stepW fs inp orc s i=(s.1.set i (gX f inp orc s.2),s.2++[(f.name,gX f inp orc s.2)]):=by unfold stepW; rw [hf]
theorem run_at (fs:List Fd) (inp:Env) (orc:List Aw) (os:List Nat) (k i:Nat) (hi:os[k]?=some i) (g:Fd) (hg:fs[i]?=some g):runW fs inp orc (os.take (k + 1))=((runW fs inp orc (os.take k)).1.set i (gX g inp orc (runW fs inp orc (os.take k)).2),(runW fs inp orc (os.take k)).2++[(g.name,gX g inp orc (runW fs inp orc (os.take k)).2)]):=by
 rw [List.take_add_one,hi]
 show runW fs inp orc (os.take k++[i])=_
 rw [runW_snoc,stepW_at hg]
def allW (fs:List Fd) (inp:Env) (orc:List Aw) (os:List Nat):List Vl:=(runW fs inp orc os).1
def fcs:List Fd→List Vl→Env
 | f :: fs,v :: vs=>(f.name,v) :: fcs fs vs
 | _,_=>[]
theorem fcs_len:∀ {fs:List Fd} {v:List Vl},v.length=fs.length→(fcs fs v).length=fs.length
 | [],[],_=>rfl
 | [],_ :: _,h=>by simp at h
 | _ :: _,[],h=>by simp at h
 | f :: fs,v :: vs,h=>by show (fcs fs vs).length + 1=fs.length + 1; rw [fcs_len (by simpa using h)]
theorem fcs_get:∀ {fs:List Fd} {v:List Vl} {i:Nat} {f:Fd} {x:Vl},(fs.map (fun f:Fd=>f.name)).Nodup→fs[i]?=some f→v[i]?=some x→(fcs fs v).get f.name=some x
 | [],_,_,_,_,_,h,_=>by simp at h
 | _ :: _,[],_,_,_,_,_,h=>by simp at h
 | g :: fs,u :: vs,0,f,x,_,h1,h2=>by
  simp only [List.getElem?_cons_zero,Option.some.injEq] at h1 h2
  subst h1 h2
  exact env_hit _ _ _
 | g :: fs,u :: vs,i + 1,f,x,hd,h1,h2=>by
  rw [List.map_cons,List.nodup_cons] at hd
  have h1:fs[i]?=some f:=by simpa using h1
  show Env.get ((g.name,u) :: fcs fs vs) f.name=some x
  rw [env_miss _ _ fun e=>hd.1 (List.mem_map.2 ⟨f,List.mem_of_getElem? h1,e⟩)]
  exact fcs_get hd.2 h1 (by simpa using h2)
structure Sol (fs:List Fd) (inp:Env) (orc:List Aw) (v:List Vl):Prop where
 len:v.length=fs.length
 at_:∀ (i:Nat) (f:Fd) (x:Vl),fs[i]?=some f→v[i]?=some x→x=gX f inp orc (fcs fs v)
theorem oneV_congr {f:Fd} {inp:Env} {orc:List Aw} {e1 e2:Env} (h:f.kind≠1→∀ s∈fY f.src,e1.get s=e2.get s):gX f inp orc e1=gX f inp orc e2:=by
 unfold gX
 by_cases h1:f.kind=1
 ·rw [if_pos h1,if_pos h1]
 ·rw [if_neg h1,if_neg h1,eval_local (h h1)]
theorem refs_typed {f:ByteArray→Option Int} {x:Ex}:WfE x→(tyE f x).2=0→∀ s∈fY x,(f s).isSome=true:=by
 refine ex_ind (p:=fun x=>WfE x→(tyE f x).2=0→∀ s∈fY x,(f s).isSome=true) (fun x ih hw ht s hs=>?_) x
 rw [gY] at hs
 rw [tyE_eq] at ht
 by_cases h2:x.op=2
 ·rw [if_pos h2,ref_args hw h2] at hs
  have hs:s=x.nm:=by
   rcases List.mem_append.1 hs with q | q
   ·exact List.mem_singleton.1 q
   ·rw [iY] at q; cases q
  rw [if_neg (by omega),if_pos h2] at ht
  rw [hs]
  cases hf:f x.nm with
  | some t=>rfl
  | none=>rw [hf] at ht; exact absurd ht (by decide)
 ·rw [if_neg h2,List.nil_append,mem_refsL] at hs
  obtain ⟨y,hy,hs⟩:=hs
  by_cases h1:x.op=1
  ·have:x.args=[]:=by
    rcases hw.top with ⟨-,-,-,-,h⟩ | ⟨h,-⟩ | ⟨h,-⟩
    ·exact List.length_eq_zero_iff.1 h
    ·omega
    ·omega
   rw [this] at hy; cases hy
  ·rw [if_neg h1,if_neg h2] at ht
   by_cases hL:(tyL f x.args).2=0
   ·obtain ⟨-,hg⟩:=tyL_get (f:=f) (l:=x.args) (ts:=(tyL f x.args).1) (Prod.ext rfl hL)
    obtain ⟨i,hi⟩:=List.getElem?_of_mem hy
    obtain ⟨t,-,e⟩:=hg i y hi
    exact ih y hy (hw.list.get hy) (by rw [e]) s hs
   ·rw [if_neg hL] at ht
    exact absurd ht hL
theorem tyF_some {fs:List Fd} {s:ByteArray} (h:(tyF fs s).isSome=true):∃ (i:Nat) (f:Fd),fs[i]?=some f∧f.name=s:=by
 induction fs with
 | nil=>cases h
 | cons g l ih =>
  rw [tyF] at h
  by_cases e:(s == g.name)=true
  ·exact ⟨0,g,rfl,((Go.MapKept.bytes_beq _ _).1 e).symm⟩
  ·rw [if_neg e] at h
   obtain ⟨i,f,h1,h2⟩:=ih h
   exact ⟨i + 1,f,by simpa using h1,h2⟩
theorem refs_need {fs:List Fd} (hok:OkFs fs) {i:Nat} {f:Fd} (hf:fs[i]?=some f) (hk:f.kind≠1) {s:ByteArray} (hs:s∈fY f.src):∃ (j:Nat) (g:Fd),fs[j]?=some g∧g.name=s∧j∈(xW fs).getD i []:=by
 have hF:=hok.each f (List.mem_of_getElem? hf)
 have ht:(tyE (tyF fs) f.src).2=0:=by
  have k1:=hF.k1
  have k3:=hF.k3
  rcases (by omega:f.kind=2∨f.kind=3) with q | q
  ·rw [hF.form q]
  ·obtain ⟨t,-,-,e⟩:=hF.look q
   rw [e]
 obtain ⟨j,g,h1,h2⟩:=tyF_some (refs_typed (hF.wf hk).1 ht s hs)
 refine ⟨j,g,h1,h2,?_⟩
 have hfd:=iQ hok.nodup h1
 rw [h2] at hfd
 have:(xW fs).getD i []=needE fs f:=by unfold xW; rw [List.getD_eq_getElem?_getD,List.getElem?_map,hf]; rfl
 rw [this]
 unfold needE
 rw [if_neg hk]
 refine List.mem_map.2 ⟨s,mem_namesE.2 hs,?_⟩
 unfold plc
 rw [hfd]; rfl
structure AnOk (fs:List Fd) (p:Aw):Prop where
 place:∃ (i:Nat) (f:Fd) (t:Int),fs[i]?=some f∧f.name=p.nm∧f.kind=3∧tyE (tyF fs) f.src=(t,0)∧p.key.k=t∧p.has.k=f.ty
 key:p.key.known
 has:p.has.known
structure OkOrc (fs:List Fd) (orc:List Aw):Prop where
 each:∀ p∈orc,AnOk fs p
 once:orc.Pairwise (fun p q=>p.hit q.nm q.key=false)
theorem OkOrc.has {fs:List Fd} {orc:List Aw} (h:OkOrc fs orc):∀ p∈orc,OkV p.has:=fun p hp=>.inl (h.each p hp).has
theorem OkOrc.nil (fs:List Fd):OkOrc fs []:=⟨fun p hp=>(by cases hp),List.Pairwise.nil⟩
abbrev lZ (l:List Vl):List (List Value):=l.map Vl.cells
theorem vlRows_set (l:List Vl) (i:Nat) (x:Vl):(lZ l).set i x.cells=lZ (l.set i x):=List.map_set.symm
theorem mZ {l:List Vl} {i:Nat} {x:Vl} (h:l[i]?=some x):(lZ l)[i]?=some x.cells:=by rw [List.getElem?_map,h]; rfl
theorem ask_ok {orc:List Aw} (h:∀ p∈orc,OkV p.has) (s:ByteArray) (key:Vl):OkV (askL s key orc):=by
 induction orc with
 | nil=>exact .inr (.inl rfl)
 | cons p l ih =>
  rw [askL]
  split
  ·exact h p (by simp)
  ·exact ih fun q hq=>h q (by simp [hq])
theorem tell_ok {inp:Env} (h:∀ p∈inp,p.2.known) (s:ByteArray) {t:Int} (h1:1≤t) (h3:t≤3):(gZ s t inp).known:=by
 induction inp with
 | nil =>
  show qJ t 0 ⟨#[]⟩
  rcases (by omega:t=1∨t=2∨t=3) with e | e | e
  ·exact .inl ⟨e,⟨by decide,by decide⟩,rfl⟩
  ·exact .inr (.inl ⟨e,.inl rfl,rfl⟩)
  ·exact .inr (.inr ⟨e,rfl,by decide,fun i hi=>absurd hi (Nat.not_lt_zero i)⟩)
 | cons p l ih =>
  rw [gZ]
  split
  ·exact h p (by simp)
  ·exact ih fun q hq=>h q (by simp [hq])
theorem get_ok {l:Env} (h:∀ p∈l,OkV p.2):EnvOk l:=fun _ _ hs=>h _ (get_mem hs)
theorem oneV_ok {fs:List Fd} {f:Fd} (hf:OkF fs f) {inp:Env} (hi:∀ p∈inp,p.2.known) {orc:List Aw} (ho:∀ p∈orc,OkV p.has) {kn:Env} (hk:∀ p∈kn,OkV p.2):OkV (gX f inp orc kn):=by
 unfold gX
 by_cases h1:f.kind=1
 ·rw [if_pos h1]; exact .inl (tell_ok hi _ hf.t1 hf.t3)
 ·have he:=evalE_ok (get_ok hk) _ f.src (Nat.le_refl _) (hf.wf h1).1
  rw [if_neg h1]
  split
  ·unfold askV
   split
   ·exact ask_ok ho _ _
   ·exact he
  ·exact he
structure RunI (fs:List Fd) (inp:Env) (orc:List Aw) (os:List Nat) (s:List Vl × Env):Prop where
 len:s.1.length=fs.length
 klen:s.2.length=os.length
 ok:∀ p∈s.2,OkV p.2
 okv:∀ i∈os,∀ x,s.1[i]?=some x→OkV x
 at_:∀ i∈os,∀ f,fs[i]?=some f→∃ x,s.1[i]?=some x∧s.2.get f.name=some x∧x=gX f inp orc s.2
 asks:∀ i∈os,∀ f,fs[i]?=some f→f.kind≠1→∀ n∈fY f.src,(s.2.get n).isSome=true
 back:∀ n v,s.2.get n=some v→∃ i∈os,∃ f,fs[i]?=some f∧f.name=n
theorem get_app {s:ByteArray} {l m:Env} {v:Vl} (h:l.get s=some v):Env.get (l++m) s=some v:=by
 induction l with
 | nil=>cases h
 | cons p l ih =>
  obtain ⟨k,u⟩:=p
  show Env.get ((k,u) :: (l++m)) s=some v
  rw [Env.get] at h ⊢
  split at h
  ·rw [if_pos (by assumption)]; exact h
  ·rw [if_neg (by assumption)]; exact ih h
theorem run_step {fs:List Fd} (hok:OkFs fs) {inp:Env} (hi:∀ p∈inp,p.2.known) {orc:List Aw} (ho:∀ p∈orc,OkV p.has) {os:List Nat} {s:List Vl × Env} (h:RunI fs inp orc os s) {i:Nat} {f:Fd} (hf:fs[i]?=some f) (hn:i ∉ os)
  (hr:∀ j∈(xW fs).getD i [],j∈os):RunI fs inp orc (os++[i]) (stepW fs inp orc s i):=by
 have hil:i < fs.length:=(List.getElem?_eq_some_iff.1 hf).1
 have hnew:s.2.get f.name=none:=by
  cases hg:s.2.get f.name with
  | none=>rfl
  | some v =>
   obtain ⟨j,hj,g,h1,h2⟩:=h.back _ _ hg
   have e1:=iQ hok.nodup h1
   have e2:=iQ hok.nodup hf
   rw [h2,e2] at e1
   have e1:i=j:=by omega
   rw [e1] at hn
   exact absurd hj hn
 have hasks:f.kind≠1→∀ n∈fY f.src,(s.2.get n).isSome=true:=fun hk n hm=>by
  obtain ⟨j,g,h1,h2,h3⟩:=refs_need hok hf hk hm
  obtain ⟨x,-,q,-⟩:=h.at_ j (hr j h3) g h1
  rw [h2] at q
  rw [q]; rfl
 have hx:=oneV_ok (hok.each f (List.mem_of_getElem? hf)) hi ho h.ok
 rw [stepW_at hf]
 have hstay:∀ {n:ByteArray} {p:ByteArray × Vl},(s.2.get n).isSome=true→s.2.get n=Env.get (s.2++[p]) n:=fun {n p} q=>by
  obtain ⟨v,hv⟩:=Option.isSome_iff_exists.1 q
  rw [hv,get_app hv]
 have hhit:∀ x:Vl,Env.get (s.2++[(f.name,x)]) f.name=some x:=fun x=>by
  rw [get_snoc,hnew]
  simp only
  rw [if_pos ((Go.MapKept.bytes_beq _ _).2 rfl)]
 refine ⟨by rw [List.length_set]; exact h.len,by simp [h.klen],fun p hp=>?_,fun j hj x hx'=>?_,fun j hj g hg=>?_,fun j hj g hg hk n hm=>?_,fun n v hv=>?_⟩
 ·rcases List.mem_append.1 hp with q | q
  ·exact h.ok p q
  ·rw [List.mem_singleton.1 q]; exact hx
 ·by_cases e:j=i
  ·subst e
   rw [List.getElem?_set_self (by rw [h.len]; exact hil)] at hx'
   rw [← Option.some.inj hx']; exact hx
  ·rw [List.getElem?_set_ne (fun q=>e q.symm)] at hx'
   rcases List.mem_append.1 hj with q | q
   ·exact h.okv j q x hx'
   ·exact absurd (List.mem_singleton.1 q) e
 ·by_cases e:j=i
  ·subst e
   rw [hf] at hg
   obtain rfl:=Option.some.inj hg
   exact ⟨_,List.getElem?_set_self (by rw [h.len]; exact hil),hhit _,oneV_congr fun hk n hm=>hstay (hasks hk n hm)⟩
  ·rcases List.mem_append.1 hj with q | q
   ·obtain ⟨x,h1,h2,h3⟩:=h.at_ j q g hg
    exact ⟨x,by rw [List.getElem?_set_ne (fun q=>e q.symm)]; exact h1,get_app h2,h3.trans (oneV_congr fun hk n hm=>hstay (h.asks j q g hg hk n hm))⟩
   ·exact absurd (List.mem_singleton.1 q) e
 ·rcases List.mem_append.1 hj with q | q
  ·have:=h.asks j q g hg hk n hm
   rw [← hstay this]; exact this
  ·rw [List.mem_singleton.1 q,hf] at hg
   obtain rfl:=Option.some.inj hg
   rw [← hstay (hasks hk n hm)]; exact hasks hk n hm
 ·rw [get_snoc] at hv
  cases hg:s.2.get n with
  | some u =>
   obtain ⟨j,hj,r⟩:=h.back n u hg
   exact ⟨j,by simp [hj],r⟩
  | none =>
   rw [hg] at hv
   simp only at hv
   by_cases e:(n == f.name)=true
   ·exact ⟨i,by simp,f,hf,((Go.MapKept.bytes_beq _ _).1 e).symm⟩
   ·rw [if_neg e] at hv; cases hv
structure Ordd (fs:List Fd) (ρ:List Int) (lv:Nat→Nat) (os:List Nat):Prop where
 rank:Ranked (xW fs) ρ lv
 perm:os.Perm (List.range fs.length)
 rise:∀ (i j x y:Nat),i < j→os[i]?=some x→os[j]?=some y→ρ.getD x 0≤ρ.getD y 0
theorem ordL_ordd {fs:List Fd} {ρ:List Int} {lv:Nat→Nat} (hr:Ranked (xW fs) ρ lv) (h1:0 < fs.length):Ordd fs ρ lv (pX ρ fs.length):=⟨hr,(ordL_spec ρ fs.length h1).1,(ordL_spec ρ fs.length h1).2⟩
theorem yW (fs:List Fd):(xW fs).length=fs.length:=by unfold xW; rw [List.length_map]
theorem Ordd.len {fs:List Fd} {ρ:List Int} {lv:Nat→Nat} {os:List Nat} (h:Ordd fs ρ lv os):os.length=fs.length:=by rw [h.perm.length_eq,List.length_range]
theorem Ordd.lt {fs:List Fd} {ρ:List Int} {lv:Nat→Nat} {os:List Nat} (h:Ordd fs ρ lv os) {i:Nat} (hi:i∈os):i < fs.length:=List.mem_range.1 (h.perm.mem_iff.1 hi)
theorem Ordd.ahead {fs:List Fd} {ρ:List Int} {lv:Nat→Nat} {os:List Nat} (h:Ordd fs ρ lv os) {t i:Nat} (ht:os[t]?=some i):∀ j∈(xW fs).getD i [],j∈os.take t:=fun j hj=>by
 have hi:=h.lt (List.mem_of_getElem? ht)
 obtain ⟨h1,-⟩:=h.rank.low i (by rw [yW]; exact hi) j hj
 rw [yW] at h1
 have h2:ρ.getD j 0 + 1≤ρ.getD i 0:=by rw [h.rank.at_ i (by rw [yW]; exact hi)]; exact top_le hj
 obtain ⟨u,hu⟩:=List.getElem?_of_mem (h.perm.mem_iff.2 (List.mem_range.2 h1))
 have hut:u < t:=by
  rcases (by omega:u < t∨u=t∨t < u) with q | q | q
  ·exact q
  ·subst q
   rw [ht] at hu
   obtain rfl:=Option.some.inj hu
   omega
  ·have:=h.rise t u i j q ht hu
   omega
 exact List.mem_of_getElem? (i:=u) (by rw [List.getElem?_take_of_lt hut]; exact hu)
theorem run_inv {fs:List Fd} (hok:OkFs fs) {inp:Env} (hi:∀ p∈inp,p.2.known) {orc:List Aw} (ho:∀ p∈orc,OkV p.has) {ρ:List Int} {lv:Nat→Nat} {os:List Nat} (h:Ordd fs ρ lv os):∀ t,t≤os.length→RunI fs inp orc (os.take t) (runW fs inp orc (os.take t))
 | 0,_=>by
  refine ⟨by simp [runW],rfl,fun p hp=>?_,fun j hj=>?_,fun j hj=>?_,fun j hj=>?_,fun n v hv=>?_⟩
  ·cases hp
  ·cases hj
  ·cases hj
  ·cases hj
  ·cases hv
 | t + 1,ht=>by
  obtain ⟨i,hti⟩:∃ i,os[t]?=some i:=⟨_,List.getElem?_eq_getElem (by omega)⟩
  have hil:=h.lt (List.mem_of_getElem? hti)
  obtain ⟨f,hf⟩:∃ f,fs[i]?=some f:=⟨_,List.getElem?_eq_getElem hil⟩
  have e:os.take (t + 1)=os.take t++[i]:=by rw [List.take_add_one,hti]; rfl
  have hnd:os.Nodup:=h.perm.nodup_iff.2 List.nodup_range
  have hni:i ∉ os.take t:=fun q=>by
   obtain ⟨u,hu⟩:=List.getElem?_of_mem q
   have hut:u < t:=by
    rcases Nat.lt_or_ge u t with q | q
    ·exact q
    ·rw [List.getElem?_eq_none (by rw [List.length_take]; omega)] at hu; cases hu
   rw [List.getElem?_take_of_lt hut] at hu
   have:=(List.getElem?_inj (by omega) hnd).1 (hu.trans hti.symm)
   omega
  rw [e,runW_snoc]
  exact run_step hok hi ho (run_inv hok hi ho h t (by omega)) hf hni (h.ahead hti)
theorem all_sol {fs:List Fd} (hok:OkFs fs) {inp:Env} (hi:∀ p∈inp,p.2.known) {orc:List Aw} (ho:∀ p∈orc,OkV p.has) {ρ:List Int} {lv:Nat→Nat} {os:List Nat} (h:Ordd fs ρ lv os):Sol fs inp orc (allW fs inp orc os)∧∀ x∈allW fs inp orc os,OkV x:=by
 have hI:=run_inv hok hi ho h os.length (Nat.le_refl _)
 rw [List.take_length] at hI
 have hin:∀ {i:Nat},i < fs.length→i∈os:=fun q=>h.perm.mem_iff.2 (List.mem_range.2 q)
 refine ⟨⟨hI.len,fun i f x hf hx=>?_⟩,fun x hx=>?_⟩
 ·obtain ⟨y,h1,h2,h3⟩:=hI.at_ i (hin (List.getElem?_eq_some_iff.1 hf).1) f hf
  obtain rfl:x=y:=Option.some.inj (hx.symm.trans h1)
  refine h3.trans (oneV_congr fun hk n hm=>?_)
  obtain ⟨j,g,g1,g2,-⟩:=refs_need hok hf hk hm
  obtain ⟨z,e1,e2,-⟩:=hI.at_ j (hin (List.getElem?_eq_some_iff.1 g1).1) g g1
  rw [g2] at e2
  rw [e2,← g2]
  exact (fcs_get hok.nodup g1 e1).symm
 ·obtain ⟨i,hi⟩:=List.getElem?_of_mem hx
  exact hI.okv i (hin (by rw [← hI.len]; exact (List.getElem?_eq_some_iff.1 hi).1)) x hi
theorem sol_one {fs:List Fd} (hok:OkFs fs) {inp:Env} {orc:List Aw} {ρ:List Int} {lv:Nat→Nat} (hr:Ranked (xW fs) ρ lv) {v w:List Vl} (hv:Sol fs inp orc v) (hw:Sol fs inp orc w):v=w:=by
 have key:∀ t i,i < fs.length→lv i < t→v[i]?=w[i]?:=fun t=>by
  induction t with
  | zero=>intro i _ h; omega
  | succ t ih =>
   intro i hi ht
   obtain ⟨f,hf⟩:∃ f,fs[i]?=some f:=⟨_,List.getElem?_eq_getElem hi⟩
   obtain ⟨x,hx⟩:∃ x,v[i]?=some x:=⟨_,List.getElem?_eq_getElem (by rw [hv.len]; exact hi)⟩
   obtain ⟨y,hy⟩:∃ y,w[i]?=some y:=⟨_,List.getElem?_eq_getElem (by rw [hw.len]; exact hi)⟩
   rw [hx,hy,hv.at_ i f x hf hx,hw.at_ i f y hf hy]
   refine congrArg some (oneV_congr fun hk n hm=>?_)
   obtain ⟨j,g,g1,g2,g3⟩:=refs_need hok hf hk hm
   obtain ⟨l1,l2⟩:=hr.low i (by rw [yW]; exact hi) j g3
   rw [yW] at l1
   have e:=ih j l1 (by omega)
   obtain ⟨a,ha⟩:∃ a,v[j]?=some a:=⟨_,List.getElem?_eq_getElem (by rw [hv.len]; exact l1)⟩
   rw [← g2,fcs_get hok.nodup g1 ha,fcs_get hok.nodup g1 (e ▸ ha)]
 refine List.ext_getElem? fun i=>?_
 rcases Nat.lt_or_ge i fs.length with q | q
 ·exact key (lv i + 1) i q (by omega)
 ·rw [List.getElem?_eq_none (by rw [hv.len]; exact q),List.getElem?_eq_none (by rw [hw.len]; exact q)]
end Go.Proofs.YthckljafinhepaaGreat
namespace Go.Proofs.YthckljafinhepaaGreat
open Go.RowKit
set_option linter.unusedVariables false
theorem order_any (fs:List Fd) (fv:Value) (h:Vw) (hok:OkFs fs) (hfs:IsFds h fv fs) (ρ:List Int) (lv:Nat→Nat) (hρ:Ranked (xW fs) ρ lv) (h1:1≤fs.length) (h2:fs.length < 20) :
  C0 Tryz.prog 62 #[fv] h (fun r h'=>∃ A c,r=.tuple #[.slice A fs.length c,.int .i64 0]∧RS h' 1 (.slice A fs.length c) (wW (pX ρ fs.length))):=by
 have hnl:(xW fs).length=fs.length:=by unfold xW; rw [List.length_map]
 have hO:=fun H q=>rankOf_any fs fv H hok q ρ lv hρ
 have hρl:ρ.length=fs.length:=hρ.len.trans hnl
 obtain ⟨-,A,c,rfl,-,-,-,-,-,-⟩:=dQ hfs
 generalize hL:fs.length=n at *
 have hlo:(wW (List.range n)).length=n:=by simp
 refine aV Tryz.func62 (c:=Tryz.f62.body.getD .skip) (N:=32) ?_
 intro hbx hbad Q hQ
 refine go0 9 [] [] ?_
 refine wQ (fun H sH=>hO _ (hfs.sees sH)) ?_; rintro _ W1 S2 ⟨b,rfl,hro⟩
 refine go1 34 [.own,.b 0 0] [] ?_
 intro b3
 refine oV 3 1 ?_
 refine jV [0,1,0,1,1,1,1] [.block 0,.seq [1,1,1,1,1]] (fun (k:Nat) X=>∃ (W4:Vw) (v:Value),X W4 [(4,Vp b3),(19,Vi (n:Int)),(20,Vi (k:Int)),(7,v)] [.row v 3 1 (wW (List.range k)),.box b3 [Vs b n n]] []∧Sees W1 W4∧(k≤n)) (fun k=>n - k) (0) (fun X q=>⟨W1,(Vz),q _ _ _ _ ⟨rfl,by kernel_rfl⟩,Sees.refl _,Nat.zero_le _⟩) ?_
 rintro k a w ⟨W4,v,hJ,S5,hk⟩; refine pV hJ ?_; clear hJ a w
 refine go0 6 [] [] ?_
 rcases (by omega:k < n∨k=n) with hlt | hke
 ·skip
  refine uV (t:=decide ((k:Int) < (n:Int))) (decide_eq_true (by omega)) ?_
  refine aW 14 [.fix] [] ?_
  intro b6 W7 S8
  refine goa0 9 [.ap 0 0 (wW (List.range k)) [[Vi (k:Int)]]] [(27,Vi (IntKind.i64.wrap ((k:Int) + 1)),Vi ((k:Int) + 1))] ?_ (ho:=(And.intro (by simp; omega) (trivial))) (hc:=(And.intro (jJ (by omega) (by omega)) (trivial)))
  intro v26 W9 S10
  refine gV [(4,Vp b3),(19,Vi (n:Int)),(7,.slice (sA v26) (sN v26) (sC v26)),(20,Vi ((k:Int) + 1))] [.row (.slice (sA v26) (sN v26) (sC v26)) 3 1 ((wW (List.range k))++[[Vi (k:Int)]]),.box b3 [Vs b n n]] [] ?_
  exact tV (k + 1) (fun X q=>⟨W9,.slice (sA v26) (sN v26) (sC v26),q _ _ _ _ (xY (by rw [List.range_succ,natRows_snoc])),(S5.trans (S8.trans S10)),by omega⟩) (by omega)
 ·skip
  rw [hke]
  refine dV (t:=decide ((n:Int) < (n:Int))) (decide_eq_false (by omega)) ?_
  refine go0 2 [] [] ?_
  refine iV ?_
  refine go0 6 [] [] ?_
  refine eV 0 (v:=v) (e:=3) (kk:=1) (l:=wW (List.range n)) ?_; intro Av cv hE_v hc_v hm_v
  rw [show (wW (List.range n)).length=n from by first | omega | (simp; done) | (simp; omega)] at hE_v hc_v
  rw [hE_v]
  refine g_get (fun a w hJ=>own_some (hJ.rowOwn (v:=.slice Av n cv) (e:=3) (kk:=1) (l:=wW (List.range n)) 0 (by kernel_rfl)) ((by rw [List.length_map,List.length_range]; omega))) ?_; rintro ⟨bV,rfl⟩
  refine gV [(7,Vs bV n cv),(28,Vs bV n cv),(29,.func (.func 94) #[] #[Vp b3])] [.row (Vs bV n cv) 3 1 (wW (List.range n)),.box b3 [Vs b n n]] [] ?_
  refine g_callsetw 0 (g:=bV) (m:=n) (cap:=cv) (kk:=1) (e:=3) (l:=wW (List.range n)) (l':=wW (pX ρ n)) (fun a w hJ hok=>sort_set (n:=n) (by omega) h2 ρ hρl b _ bV cv _ _ _ (hJ.j.boxQ (b:=b3) (cs:=[Vs b n n]) 1 (by kernel_rfl)) ((hro.sees (S5.trans hJ.j.sees))) (by simp [blk,Ent.blocks,Value.ownBlock,Z.is]) (by have:=hJ.j.nodup; simp [blk,Ent.blocks,Value.ownBlock,Z.is] at this; omega) hok) ?_
  refine go0 10 [] [] ?_
  refine fV 0 (v:=Vs bV n cv) (e:=3) (kk:=1) (l:=wW (pX ρ n)) ?_; intro W11 S12 fo
  refine hQ.to [Vs bV n cv,Vi 0] (fun H sH=>?_)
  exact ⟨_,_,rfl,(fo.sees sH)⟩
end Go.Proofs.YthckljafinhepaaGreat
namespace Go.Proofs.YthckljafinhepaaGreat
open Go.RowKit
set_option linter.unusedVariables false
def metL (l:List Nat):List (Int × Value):=l.map fun (k:Nat)=>((k:Int),.bool true)
abbrev qW (l:List Nat):List (Value × Value):=fW (metL l)
theorem metEs_snoc (l:List Nat) (k:Nat):qW (l++[k])=qW l++[(.int .i64 (k:Int),.bool true)]:=by simp [qW,fW,metL]
theorem iget_met (k:Nat):∀ l:List Nat,iget (k:Int) (metL l)=if k∈l then some (.bool true) else none
 | []=>rfl
 | x :: l=>by
  have ih:=iget_met k l
  unfold metL at ih ⊢
  rw [List.map_cons,iget,ih]
  by_cases e:k=x
  ·subst e; simp
  ·rw [if_neg (by omega)]
   simp [e]
theorem met_yes {k:Nat} {l:List Nat} (h:k∈l):∃ i,mfind (.int .i64) (.int .i64 (k:Int)) (qW l)=some (some (i,.bool true)):=ifind_some (by rw [iget_met,if_pos h])
theorem met_no {k:Nat} {l:List Nat} (h:k ∉ l):mfind (.int .i64) (.int .i64 (k:Int)) (qW l)=some none:=ifind_none (by rw [iget_met,if_neg h])
section
variable {P:Program} {C:Fx} {E:List (Nat × Value)} {B:List Ent} {h:Vw} {a:Act} {w:World}
theorem J.mapQ (hJ:J C E B h a w) (i:Nat) {b:Nat} {es:List (Value × Value)} (hb:B[i]?=some (.map b es)):MapAt ⟨w,[]⟩ b es:=⟨by simp,hJ.ents _ (List.mem_of_getElem? hb)⟩
end
theorem hangc_any (met:List Nat) (k b bm:Nat) (h:Vw) (hb:Cells h b 0 [.map (some bm)]) (hm:MapAt h bm (qW met)):C0 Tryz.prog 79 #[.int .i64 (k:Int),.pointer (some ⟨b,0,none⟩)] h (fun r _=>r=.bool (decide (k∈met))):=by
 by_cases hk:k∈met
 ·obtain ⟨i,hi⟩:=met_yes hk
  refine aV Tryz.func79 (c:=Tryz.f79.body.getD .skip) (N:=7) ?_
  intro hbx hbad Q hQ
  refine cV (hb.sees (Sees.refl _)) ?_
  refine go0 9 [.f 0 0] [] ?_
  refine lV bm (es:=qW met) (td:=.int .i64) (key:=Vi (k:Int)) (r:=some (i,.bool true)) (.bool false) (.bool true) (fun a w hJ=>MapAt.now (hm.sees (Sees.refl _)) hJ) (hi) ?_
  refine go0 4 [] [] ?_
  refine hQ.to [.bool true] (fun H sH=>?_)
  exact congrArg Value.bool (decide_eq_true hk).symm
 ·refine aV Tryz.func79 (c:=Tryz.f79.body.getD .skip) (N:=7) ?_
  intro hbx hbad Q hQ
  refine cV (hb.sees (Sees.refl _)) ?_
  refine go0 9 [.f 0 0] [] ?_
  refine lV bm (es:=qW met) (td:=.int .i64) (key:=Vi (k:Int)) (r:=none) (.bool false) (.bool false) (fun a w hJ=>MapAt.now (hm.sees (Sees.refl _)) hJ) (met_no hk) ?_
  refine go0 4 [] [] ?_
  refine hQ.to [.bool false] (fun H sH=>?_)
  exact congrArg Value.bool (decide_eq_false hk).symm
theorem hidx_any (l met:List Nat) (v:Value) (b bm:Nat) (h:Vw) (hr:RS h 1 v (wW l)) (hl:l.length≤1000000) (hb:Cells h b 0 [.map (some bm)]) (hm:MapAt h bm (qW met)) :
  C0 Tryz.prog 103 #[v,.func (.func 79) #[] #[.pointer (some ⟨b,0,none⟩)]] h (fun r _=>r=.int .i64 (fidx (fun y=>decide (y∈met)) l)):=by
 have hc:=fun k H q1 q2=>hangc_any met k b bm H q1 q2
 obtain ⟨A,cap,rfl,-,-,-⟩:=hr.form
 rw [List.length_map] at *
 generalize hL:l.length=len at *
 refine aV Tryz.func103 (c:=Tryz.f103.body.getD .skip) (N:=19) ?_
 intro hbx hbad Q hQ
 refine go0 14 [] [] ?_
 refine jV [0,1,0,1] [.block 0,.seq [1,1]] (fun (k:Nat) X=>∃ (W1:Vw) ,X W1 [(0,.slice A len cap),(1,.func (.func 79) #[] #[Vp b]),(7,Vi (len:Int)),(8,Vi (k:Int))] [] []∧Sees h W1∧(k≤len)∧(∀ y∈l.take k,decide (y∈met)=false)) (fun k=>len - k) (0) (fun X q=>⟨h,q _ _ _ _ ⟨rfl,by kernel_rfl⟩,Sees.refl _,Nat.zero_le _,fun y hy=>by simp at hy⟩) ?_
 rintro k a w ⟨W1,hJ,S2,hk,hn⟩; refine pV hJ ?_; clear hJ a w
 refine go0 6 [] [] ?_
 rcases (by omega:k < len∨k=len) with hlt | hke
 ·obtain ⟨f,hfk⟩:∃ f,l[k]?=some f:=⟨_,List.getElem?_eq_getElem (by omega)⟩
  have hrow:(wW l)[k]?=some [.int .i64 (f:Int)]:=by rw [List.getElem?_map,hfk]; rfl
  refine uV (t:=decide ((k:Int) < (len:Int))) (decide_eq_true (by omega)) ?_
  refine go0 15 [] [] ?_
  obtain ⟨b3,o4,rfl,-,c5⟩:=RS.row hr (hrow)
  refine cV (c5.sees S2) ?_
  refine go0 5 [.ix b3 o4 len cap k,.f 0 0,.cl 79 #[Vi (f:Int),Vp b] (.bool (decide (f∈met)))] [] ?_ (ho:=(And.intro (by first | omega | (simp; omega)) (And.intro (fun H sH=>hc f _ (hb.sees (S2.trans sH)) (hm.sees (S2.trans sH))) (trivial))))
  rcases Bool.eq_false_or_eq_true (decide (f∈met)) with hq | hq
  ·refine uV (t:=decide (f∈met)) (hq) ?_
   refine go0 9 [] [] ?_
   refine iV ?_
   refine go0 2 [] [] ?_
   refine hQ.to [Vi (k:Int)] (fun H sH=>?_)
   exact congrArg (Value.int .i64) (eQ _ l k f hn hfk hq).symm
  ·skip
   refine dV (t:=decide (f∈met)) (hq) ?_
   refine go0 7 [] [(18,Vi (IntKind.i64.wrap ((k:Int) + 1)),Vi ((k:Int) + 1))] ?_ (hc:=(And.intro (jJ (by omega) (by omega)) (trivial)))
   exact tV (k + 1) (fun X q=>⟨W1,q _ _ _ _ ⟨rfl,by kernel_rfl⟩,S2,by omega,(by rw [fZ l k f hfk]; exact fun y hy=>(List.mem_append.1 hy).elim (hn y) (fun e=>by rw [List.mem_singleton.1 e]; exact hq))⟩) (by omega)
 ·skip
  have htk:l.take k=l:=by rw [hke,← hL,List.take_length]
  rw [htk] at hn
  refine dV (t:=decide ((k:Int) < (len:Int))) (decide_eq_false (by omega)) ?_
  refine go0 2 [] [] ?_
  refine iV ?_
  refine go0 8 [] [] ?_
  refine hQ.to [Vi (-1)] (fun H sH=>?_)
  exact congrArg (Value.int .i64) (fQ _ l hn).symm
def hitB (l met:List Nat):Bool:=l.any fun y=>decide (y∈met)
theorem hcf_any (l met:List Nat) (v:Value) (b bm:Nat) (h:Vw) (hr:RS h 1 v (wW l)) (hl:l.length≤1000000) (hb:Cells h b 0 [.map (some bm)]) (hm:MapAt h bm (qW met)) :
  C0 Tryz.prog 78 #[v,.func (.func 79) #[] #[.pointer (some ⟨b,0,none⟩)]] h (fun r _=>r=.bool (hitB l met)):=by
 have hi:=fun H q1 q2 q3=>hidx_any l met v b bm H q1 hl q2 q3
 have e:decide (0≤fidx (fun y=>decide (y∈met)) l)=hitB l met:=fidx_dec _ _
 generalize fidx (fun y=>decide (y∈met)) l=p at *
 obtain ⟨A,cap,rfl,-,-,-⟩:=hr.form
 refine aV Tryz.func78 (c:=Tryz.f78.body.getD .skip) (N:=9) ?_
 intro hbx hbad Q hQ
 refine go0 15 [.cl 103 #[.slice A ((wW l).length) cap,.func (.func 79) #[] #[Vp b]] (Vi p)] [] ?_ (ho:=(And.intro (fun H sH=>hi _ (hr.sees sH) (hb.sees sH) (hm.sees sH)) (trivial)))
 refine hQ.to [.bool (decide (p ≥ 0))] (fun H sH=>?_)
 exact congrArg Value.bool e
def hgStep (need:List (List Nat)) (met:List Nat) (i:Nat):List Nat:=if hitB (need.getD i []) met=true then met++[i] else met
def hgK (need:List (List Nat)) (a:Nat) (o:List Nat) (k:Nat):List Nat:=(o.take k).foldl (hgStep need) [a]
def hgL (need:List (List Nat)) (a:Nat) (o:List Nat) (n:Nat):List Nat:=(List.range n).filter fun i=>decide (i∈hgK need a o n)
theorem hitB_iff {l met:List Nat}:hitB l met=true↔∃ y∈l,y∈met:=by unfold hitB; rw [List.any_eq_true]; simp
theorem hgK_succ {need:List (List Nat)} {a:Nat} {o:List Nat} {k i:Nat} (h:o[k]?=some i):hgK need a o (k + 1)=hgStep need (hgK need a o k) i:=by
 unfold hgK
 rw [fZ o k i h,List.foldl_append]; rfl
theorem hgStep_sub {need:List (List Nat)} {met:List Nat} {i m:Nat} (h:m∈met):m∈hgStep need met i:=by
 unfold hgStep
 split
 ·exact List.mem_append_left _ h
 ·exact h
theorem hgStep_mem {need:List (List Nat)} {met:List Nat} {i m:Nat} (h:m∈hgStep need met i):m∈met∨(m=i∧∃ y∈need.getD i [],y∈met):=by
 unfold hgStep at h
 split at h
 ·rename_i q
  rcases List.mem_append.1 h with h | h
  ·exact .inl h
  ·exact .inr ⟨List.mem_singleton.1 h,hitB_iff.1 q⟩
 ·exact .inl h
structure IsOrd (need:List (List Nat)) (ρ:List Int) (lv:Nat→Nat) (o:List Nat) (n:Nat):Prop where
 rk:Ranked need ρ lv
 nl:need.length=n
 perm:o.Perm (List.range n)
 up:∀ (i j x y:Nat),i < j→o[i]?=some x→o[j]?=some y→ρ.getD x 0≤ρ.getD y 0
section
variable {need:List (List Nat)} {ρ:List Int} {lv:Nat→Nat} {o:List Nat} {n a:Nat}
theorem IsOrd.len (h:IsOrd need ρ lv o n):o.length=n:=by rw [h.perm.length_eq,List.length_range]
theorem IsOrd.lt (h:IsOrd need ρ lv o n) {i:Nat} (hi:i∈o):i < n:=List.mem_range.1 (h.perm.mem_iff.1 hi)
theorem IsOrd.less (h:IsOrd need ρ lv o n) {i y:Nat} (hi:i < n) (hy:y∈need.getD i []):ρ.getD y 0 < ρ.getD i 0:=by
 have h1:=h.rk.at_ i (by rw [h.nl]; exact hi)
 have h2:=top_le (r:=ρ) hy
 omega
theorem IsOrd.mono (h : IsOrd need ρ lv o n) {m : Nat} : ∀ {j k : Nat}, j ≤ k → k ≤ n → m ∈ hgK need a o j → m ∈ hgK need a o k
  | j, 0, h1, _, hm => by obtain rfl : j = 0 := by omega
                          exact hm
  | j, k + 1, h1, h2, hm => by
    by_cases e : j = k + 1
    · subst e; exact hm
    · have hl := h.len
      rw [hgK_succ (i := o[k]'(by omega)) (List.getElem?_eq_getElem (by omega))]
      exact hgStep_sub (IsOrd.mono h (by omega) (by omega) hm)
theorem IsOrd.came (h:IsOrd need ρ lv o n) {m:Nat}:∀ {k:Nat},k≤n→m∈hgK need a o k→m=a∨∃ j,j < k∧o[j]?=some m∧(∃ y∈need.getD m [],y∈hgK need a o j)∧m∈hgK need a o (j + 1)
 | 0,_,hm=>.inl (List.mem_singleton.1 hm)
 | k + 1,hk,hm=>by
  have hl:=h.len
  have hok:o[k]?=some (o[k]'(by omega)):=List.getElem?_eq_getElem (by omega)
  have hm':=hm
  rw [hgK_succ hok] at hm
  rcases hgStep_mem hm with q | ⟨q1,q2⟩
  ·rcases IsOrd.came h (by omega) q with e | ⟨j,h1,h2⟩
   ·exact .inl e
   ·exact .inr ⟨j,by omega,h2⟩
  ·rw [← q1] at hok q2
   exact .inr ⟨k,by omega,hok,q2,hm'⟩
theorem IsOrd.high (h:IsOrd need ρ lv o n):∀ {k:Nat},k≤n→∀ m∈hgK need a o k,ρ.getD a 0≤ρ.getD m 0
 | 0,_,m,hm=>by rw [List.mem_singleton.1 hm]; exact Int.le_refl _
 | k + 1,hk,m,hm=>by
  have hl:=h.len
  have hok:o[k]?=some (o[k]'(by omega)):=List.getElem?_eq_getElem (by omega)
  rw [hgK_succ hok] at hm
  rcases hgStep_mem hm with q | ⟨q1,y,q2,q3⟩
  ·exact IsOrd.high h (by omega) m q
  ·have h1:=IsOrd.high h (by omega) y q3
   have h2:=h.less (h.lt (List.mem_of_getElem? hok)) q2
   rw [q1]; omega
theorem IsOrd.new (h:IsOrd need ρ lv o n) {k i:Nat} (hk:k < n) (hi:o[k]?=some i) (hh:hitB (need.getD i []) (hgK need a o k)=true):i ∉ hgK need a o k:=by
 intro hm
 obtain ⟨y,hy,hym⟩:=hitB_iff.1 hh
 have hil:=h.lt (List.mem_of_getElem? hi)
 rcases h.came (by omega) hm with e | ⟨j,h1,h2,-⟩
 ·subst e
  have:=h.high (by omega) y hym
  have:=h.less hil hy
  omega
 ·have:=(List.getElem?_inj (by rw [h.len]; omega) (h.perm.nodup_iff.2 List.nodup_range)).1 (h2.trans hi.symm)
  omega
theorem hgL_mem {m:Nat}:m∈hgL need a o n↔m < n∧m∈hgK need a o n:=by unfold hgL; rw [List.mem_filter]; simp
theorem hgL_len:(hgL need a o n).length≤n:=by unfold hgL; have:=List.length_filter_le (fun i=>decide (i∈hgK need a o n)) (List.range n); rw [List.length_range] at this; exact this
end
theorem hangs_any (fs:List Fd) (fv:Value) (h:Vw) (hok:OkFs fs) (hfs:IsFds h fv fs) (ρ:List Int) (lv:Nat→Nat) (hρ:Ranked (xW fs) ρ lv) (h1:1≤fs.length) (h2:fs.length < 20) (p0:Nat) (x:Fd) (hx:fs[p0]?=some x) :
  C0 Tryz.prog 39 #[fv,.string x.name] h (fun r h'=>∃ A c,r=.tuple #[.slice A (hgL (xW fs) p0 (pX ρ fs.length) fs.length).length c,.int .i64 0]∧RS h' 1 (.slice A (hgL (xW fs) p0 (pX ρ fs.length) fs.length).length c) (wW (hgL (xW fs) p0 (pX ρ fs.length) fs.length))):=by
 have hnl:(xW fs).length=fs.length:=by unfold xW; rw [List.length_map]
 obtain ⟨hp,hs⟩:=ordL_spec ρ fs.length (by omega)
 have hI:IsOrd (xW fs) ρ lv (pX ρ fs.length) fs.length:=⟨hρ,hnl,hp,hs⟩
 have hO:=fun H q=>order_any fs fv H hok q ρ lv hρ h1 h2
 have hFd:=fun H q=>find_yes fs fv x.name p0 H q (by omega) (iQ hok.nodup hx)
 have hne:=fun H q=>needs_any fs fv H hok q
 have hnb:∀ l∈xW fs,l.length≤1000:=fun l hl=>by
  obtain ⟨f,hf,rfl⟩:=List.mem_map.1 hl
  unfold needE
  split
  ·simp
  ·rename_i g
   obtain ⟨-,w2,-⟩:=(hok.each f hf).wf g
   have:=Nat.le_trans (namesE_len f.src) (refs_le f.src)
   rw [List.length_map]; omega
 clear hp hs
 unfold hgL
 obtain ⟨-,A,c,rfl,-,-,-,-,-,-⟩:=dQ hfs
 generalize xW fs=need at *
 generalize hL:fs.length=n at *
 generalize pX ρ n=o at *
 have hol:=hI.len
 refine aV Tryz.func39 (c:=Tryz.f39.body.getD .skip) (N:=66) ?_
 intro hbx hbad Q hQ
 refine go0 9 [] [] ?_
 refine wQ (fun H sH=>hO _ (hfs.sees sH)) ?_; rintro _ W1 S2 ⟨Ao,co,rfl,hro⟩
 refine go0 42 [.cl 70 #[.slice A n c,.string x.name] (.tuple #[Vi (p0:Int),Vi 0])] [] ?_ (ho:=(And.intro (fun H sH=>hFd _ (hfs.sees (S2.trans sH))) (trivial)))
 refine wQ (fun H sH=>hne _ (hfs.sees (S2.trans sH))) ?_; rintro _ W3 S4 ⟨An,cn,us,rfl,hrn,hna⟩
 refine go0 5 [] [] ?_
 refine mV ?_; intro b5
 refine go0 1 [] [] ?_
 refine nV 0 b5 (es:=[]) (td:=.int .i64) (key:=Vi (p0:Int)) (by kernel_rfl) ?_
 refine go1 14 [.own,.b 0 0] [] ?_
 intro b6
 have hul:=hna.len
 refine jV [0,1,0,1,1,1,1,1,1,1] [.block 0,.seq [1,1,1,1,1,1,1,1]] (fun (k:Nat) X=>∃ (W7:Vw) ,X W7 [(0,.slice A n c),(9,.slice An n cn),(10,Vp b6),(37,.slice Ao n co),(38,Vi (n:Int)),(39,Vi (k:Int))] [.box b6 [.map (some b5)],.map b5 (qW (hgK need p0 o k))] []∧Sees W3 W7∧(k≤n)) (fun k=>n - k) (0) (fun X q=>⟨W3,q _ _ _ _ ⟨rfl,by kernel_rfl⟩,Sees.refl _,Nat.zero_le _⟩) ?_
 rintro k a w ⟨W7,hJ,S8,hk⟩; refine pV hJ ?_; clear hJ a w
 refine go0 6 [] [] ?_
 rcases (by omega:k < n∨k=n) with hlt | hke
 ·obtain ⟨i,hi⟩:∃ i,o[k]?=some i:=⟨_,List.getElem?_eq_getElem (by omega)⟩
  have hin:=hI.lt (List.mem_of_getElem? hi)
  have hoi:(wW o)[k]?=some [.int .i64 (i:Int)]:=by rw [List.getElem?_map,hi]; rfl
  obtain ⟨u,hu⟩:∃ u,us[i]?=some u:=⟨_,List.getElem?_eq_getElem (by omega)⟩
  obtain ⟨l,hl⟩:∃ l,need[i]?=some l:=⟨_,List.getElem?_eq_getElem (by omega)⟩
  have hrow:(us.map fun u=>[u])[i]?=some [u]:=by rw [List.getElem?_map,hu]; rfl
  have hg:need.getD i []=l:=by rw [List.getD_eq_getElem?_getD,hl]; rfl
  have hnr:=NeedAll.get hna hl hu
  have hlb:=hnb l (List.mem_of_getElem? hl)
  have hsucc:=hgK_succ (need:=need) (a:=p0) hi
  have hnew:=hI.new (a:=p0) hlt hi
  rw [hg] at hnew
  unfold hgStep at hsucc
  rw [hg] at hsucc
  obtain ⟨Au,cu,rfl,-⟩:=hnr.form
  rw [List.length_map] at *
  generalize hgK need p0 o k=met at *
  have hcf:=fun H v q1 q2 q3=>hcf_any l met v b6 b5 H q1 (by omega) q2 q3
  refine uV (t:=decide ((k:Int) < (n:Int))) (decide_eq_true (by omega)) ?_
  refine go0 6 [] [] ?_
  obtain ⟨b9,o10,rfl,-,c11⟩:=RS.row hro (hoi)
  refine cV (c11.sees (S4.trans S8)) ?_
  refine go0 9 [.ix b9 o10 n co k,.f 0 0] [] ?_ (ho:=(And.intro (by first | omega | (simp; omega)) (trivial)))
  obtain ⟨b12,o13,rfl,-,c14⟩:=RS.row hrn (hrow)
  refine cV (c14.sees S8) ?_
  refine go0 3 [.ix b12 o13 n cn i,.f 0 0] [] ?_ (ho:=(And.intro (by first | omega | (simp; omega)) (trivial)))
  refine yQ (fun a w hJ=>hcf _ _ (hnr.sees (S8.trans hJ.j.seesQ)) (hJ.j.boxQ (b:=b6) (cs:=[.map (some b5)]) 0 (by kernel_rfl)) (hJ.j.mapQ (b:=b5) (es:=qW met) 1 (by kernel_rfl))) ?_; intro W15 S16
  refine go0 2 [] [] ?_
  by_cases hh:hitB l met=true
  ·skip
   refine uV (t:=hitB l met) (hh) ?_
   refine go0 3 [.b 0 0] [] ?_
   refine nV 1 b5 (es:=qW met) (td:=.int .i64) (key:=Vi (i:Int)) (met_no (hnew hh)) ?_
   refine go0 7 [] [(51,Vi (IntKind.i64.wrap ((k:Int) + 1)),Vi ((k:Int) + 1))] ?_ (hc:=(And.intro (jJ (by omega) (by omega)) (trivial)))
   refine gV [(0,.slice A n c),(9,.slice (some ⟨b12,o13,none⟩) n cn),(10,Vp b6),(37,.slice (some ⟨b9,o10,none⟩) n co),(38,Vi (n:Int)),(39,Vi ((k:Int) + 1))] [.box b6 [.map (some b5)],.map b5 ((qW met)++[(Vi (i:Int),.bool true)])] [] ?_
   exact tV (k + 1) (fun X q=>⟨W15,q _ _ _ _ (xY (by rw [hsucc,if_pos hh,metEs_snoc] <;> rfl)),(S8.trans S16),by omega⟩) (by omega)
  ·skip
   refine dV (t:=hitB l met) ((by simpa using hh)) ?_
   refine go0 7 [] [(51,Vi (IntKind.i64.wrap ((k:Int) + 1)),Vi ((k:Int) + 1))] ?_ (hc:=(And.intro (jJ (by omega) (by omega)) (trivial)))
   refine gV [(0,.slice A n c),(9,.slice (some ⟨b12,o13,none⟩) n cn),(10,Vp b6),(37,.slice (some ⟨b9,o10,none⟩) n co),(38,Vi (n:Int)),(39,Vi ((k:Int) + 1))] [.box b6 [.map (some b5)],.map b5 (qW met)] [] ?_
   exact tV (k + 1) (fun X q=>⟨W15,q _ _ _ _ (xY (by rw [hsucc,if_neg hh])),(S8.trans S16),by omega⟩) (by omega)
 ·skip
  rw [hke]
  refine dV (t:=decide ((n:Int) < (n:Int))) (decide_eq_false (by omega)) ?_
  refine go0 2 [] [] ?_
  refine iV ?_
  refine go0 16 [] [] ?_
  generalize hgK need p0 o n=met at *
  refine oV 3 1 ?_
  refine jV [0,1,0,1,1,1,1,1,1,1,1,1] [.block 2,.seq [1,1,1,1,1,1,1,1,1,1]] (fun (i:Nat) X=>∃ (W17:Vw) (v:Value),X W17 [(10,Vp b6),(53,Vi (n:Int)),(54,Vi (i:Int)),(13,v)] [.row v 3 1 (wW ((List.range i).filter fun j=>decide (j∈met))),.box b6 [.map (some b5)],.map b5 (qW met)] []∧Sees W7 W17∧(i≤n)) (fun i=>n - i) (0) (fun X q=>⟨W7,(Vz),q _ _ _ _ ⟨rfl,by kernel_rfl⟩,Sees.refl _,Nat.zero_le _⟩) ?_
  rintro i a w ⟨W17,v,hJ,S18,hi⟩; refine pV hJ ?_; clear hJ a w
  refine go0 6 [] [] ?_
  rcases (by omega:i < n∨i=n) with hil | hie
  ·have hfl:((List.range i).filter fun j=>decide (j∈met)).length≤i:=by have:=List.length_filter_le (fun j=>decide (j∈met)) (List.range i); rw [List.length_range] at this; exact this
   by_cases hm:i∈met
   ·obtain ⟨j,hj⟩:=met_yes hm
    refine uV (t:=decide ((i:Int) < (n:Int))) (decide_eq_true (by omega)) ?_
    refine go0 14 [.b 1 0] [] ?_
    refine kV 2 b5 (es:=qW met) (td:=.int .i64) (key:=Vi (i:Int)) (r:=some (j,.bool true)) (.bool false) (.bool true) (hj) ?_
    refine aW 7 [.fix] [] ?_
    intro b19 W20 S21
    refine goa0 9 [.ap 0 0 (wW ((List.range i).filter fun j=>decide (j∈met))) [[Vi (i:Int)]]] [(64,Vi (IntKind.i64.wrap ((i:Int) + 1)),Vi ((i:Int) + 1))] ?_ (ho:=(And.intro (by constructor <;> (simp; omega)) (trivial))) (hc:=(And.intro (jJ (by omega) (by omega)) (trivial)))
    intro v63 W22 S23
    refine gV [(10,Vp b6),(53,Vi (n:Int)),(13,.slice (sA v63) (sN v63) (sC v63)),(54,Vi ((i:Int) + 1))] [.row (.slice (sA v63) (sN v63) (sC v63)) 3 1 ((wW ((List.range i).filter fun j=>decide (j∈met)))++[[Vi (i:Int)]]),.box b6 [.map (some b5)],.map b5 (qW met)] [] ?_
    exact tV (i + 1) (fun X q=>⟨W22,.slice (sA v63) (sN v63) (sC v63),q _ _ _ _ (xY (by rw [List.range_succ,List.filter_append,wW,List.map_append]; simp [hm])),(S18.trans (S21.trans S23)),by omega⟩) (by omega)
   ·skip
    refine uV (t:=decide ((i:Int) < (n:Int))) (decide_eq_true (by omega)) ?_
    refine go0 14 [.b 1 0] [] ?_
    refine kV 2 b5 (es:=qW met) (td:=.int .i64) (key:=Vi (i:Int)) (r:=none) (.bool false) (.bool false) (met_no hm) ?_
    refine go0 10 [] [(64,Vi (IntKind.i64.wrap ((i:Int) + 1)),Vi ((i:Int) + 1))] ?_ (hc:=(And.intro (jJ (by omega) (by omega)) (trivial)))
    refine gV [(10,Vp b6),(53,Vi (n:Int)),(13,v),(54,Vi ((i:Int) + 1))] [.row v 3 1 (wW ((List.range i).filter fun j=>decide (j∈met))),.box b6 [.map (some b5)],.map b5 (qW met)] [] ?_
    exact tV (i + 1) (fun X q=>⟨W17,v,q _ _ _ _ (xY (by rw [List.range_succ,List.filter_append]; simp [hm])),S18,by omega⟩) (by omega)
  ·skip
   rw [hie]
   refine eV 0 (v:=v) (e:=3) (kk:=1) (l:=wW ((List.range n).filter fun j=>decide (j∈met))) ?_; intro Av cv hE_v hc_v hm_v
   rw [show (wW ((List.range n).filter fun j=>decide (j∈met))).length=((List.range n).filter fun j=>decide (j∈met)).length from by first | omega | (simp; done) | (simp; omega)] at hE_v hc_v
   rw [hE_v]
   refine fV 0 (v:=.slice Av (((List.range n).filter fun j=>decide (j∈met)).length) cv) (e:=3) (kk:=1) (l:=wW ((List.range n).filter fun j=>decide (j∈met))) ?_; intro W24 S25 fo
   refine dV (t:=decide ((n:Int) < (n:Int))) (decide_eq_false (by omega)) ?_
   refine go0 2 [] [] ?_
   refine iV ?_
   refine go0 10 [] [] ?_
   refine hQ.to [.slice Av (((List.range n).filter fun j=>decide (j∈met)).length) cv,Vi 0] (fun H sH=>?_)
   exact ⟨_,_,rfl,(fo.sees sH)⟩
end Go.Proofs.YthckljafinhepaaGreat
