/-
  Contracts of the raw things' generator: next.
-/
import Derived.Test.YtmoahpojchndiaaGreatZL3
import Derived.Test.YtmoahpojchndiaaGreatZL11
namespace Go.Proofs.YtmoahpojchndiaaGreat
open Go.RowKit
@[reducible] def RawD.cs (r:RawD):List Value:=[.int .i64 r.k,.int .i64 r.a,.int .i64 r.b,.string r.t]
def aJ (l:List RawD) (n:Nat):RawD:=match l[n % l.length]? with
 | some r=>{ r with a:=IntKind.i64.wrap (r.a + (n / l.length:Nat)) }
 | none=>⟨0,0,0,⟨#[]⟩⟩
def bJ (l:List RawD) (n:Nat):Nat:=if l=[] then n else n + 1
set_option maxRecDepth 100000 in
theorem gen_next_some (g:Nat) (l:List RawD) (sl:Value) (n:Nat) (h:Vw) (hr:RS h 4 sl (l.map RawD.cs)) (hl:l≠[]) (hn:n < 1000000) (hlen:l.length * 40≤reachBytes) :
  C1 Tryz.prog 77 #[.pointer (some ⟨g,0,none⟩)] h g [sl,.int .i64 (n:Int)] (fun v cs' _=>v=(aJ l n).val∧cs'=[sl,.int .i64 ((n + 1:Nat):Int)]):=by
 have hp:0 < l.length:=List.length_pos_iff.2 hl
 have hm:n % l.length < l.length:=Nat.mod_lt _ hp
 obtain ⟨r,hri⟩:∃ r,l[n % l.length]?=some r:=⟨_,List.getElem?_eq_getElem hm⟩
 have hv:(aJ l n).val=.agg #[.int .i64 r.k,.int .i64 (IntKind.i64.wrap (r.a + (n / l.length:Nat))),.int .i64 r.b,.string r.t]:=by unfold aJ; rw [hri]
 rw [hv]
 obtain ⟨A,cap,rfl,hc1,hc2,-⟩:=hr.form
 obtain ⟨b,o,rfl,-,hcel⟩:=hr.row (i:=n % l.length) (x:=r.cs) (by rw [List.getElem?_map,hri]; rfl)
 rw [List.length_map] at *
 have hq:n / l.length≤n:=Nat.div_le_self _ _
 simp only [reachBytes] at hlen
 generalize hL:l.length=len at *
 have hne:((len:Int) == 0)=false:=by rw [beq_eq_false_iff_ne]; omega
 refine con_start Tryz.func77 rfl (N:=49) rfl (by kernel_rfl) ?_
 intro hbx hbad Q hQ a w hJ
 replace hJ:J ⟨49,h.w,h.bad,[g]⟩ [(0,.pointer (some ⟨g,0,none⟩))] [.box g [.slice (some ⟨b,o,none⟩) len cap,.int .i64 (n:Int)]] h a w:=hJ.to (by kernel_rfl) (by kernel_rfl)
 refine wp_seq ?_
 refine wp_region_lit ?_
 refine s_new hJ 2 (fun g=>.pointer (some ⟨g,0,none⟩)) [.int .i64 0,.int .i64 0,.int .i64 0,.string ⟨#[]⟩] 47 (by kernel_rfl) (fun _=>by kernel_rfl) ?_; clear hJ a w; intro b1 a w hJ
 refine wpList_nil ?_
 refine lJ ?_
 refine wp_seq ?_
 refine wp_seq ?_
 refine wp_region_lit ?_
 refine dY hJ 4 (.pointer (some ⟨g,0,none⟩)) (by kernel_rfl) (fun _=>by kernel_rfl) ?_; clear hJ a; intro a hJ
 refine dY hJ 5 (.pointer (some ⟨g,0,none⟩)) (by kernel_rfl) (fun _=>by kernel_rfl) ?_; clear hJ a; intro a hJ
 refine dY hJ 6 (.pointer (some ⟨g,0,none⟩)) (by kernel_rfl) (fun _=>by kernel_rfl) ?_; clear hJ a; intro a hJ
 refine aY hJ (t:=22) (x:=(.tmp 6)) 7 (.slice (some ⟨b,o,none⟩) len cap) 1 (b:=g) (off:=0) (cs:=[.slice (some ⟨b,o,none⟩) len cap,.int .i64 (n:Int)]) (by kernel_rfl) (by kernel_rfl) (by kernel_rfl) (by kernel_rfl) (by kernel_rfl) ?_; clear hJ a; intro a hJ
 refine dY hJ 8 (.int .i64 (len:Int)) (by kernel_rfl) (fun _=>by kernel_rfl) ?_; clear hJ a; intro a hJ
 refine dY hJ 9 (.bool ((len:Int) == 0)) (by kernel_rfl) (fun _=>by kernel_rfl) ?_; clear hJ a; intro a hJ
 refine wpList_nil ?_
 refine lJ ?_
 refine c_false hJ (t:=(len:Int) == 0) (by kernel_rfl) (hne) ?_
 refine wp_skip ?_
 refine lJ ?_
 refine wp_seq ?_
 let R:Reg:=⟨⟨49,h.w,h.bad,[g]⟩,[(0,11,fun gh=>.pointer (some ⟨g,0,none⟩)),(1,12,fun gh=>.pointer (some ⟨g,0,none⟩)),(2,13,fun gh=>.pointer (some ⟨g,0,none⟩)),(3,14,fun gh=>.slice (some ⟨b,o,none⟩) len cap),(4,15,fun gh=>.pointer (some ⟨g,0,none⟩)),(5,16,fun gh=>.pointer (some ⟨g,0,none⟩)),(6,17,fun gh=>.pointer (some ⟨g,1,none⟩)),(7,18,fun gh=>.int .i64 (n:Int)),(8,19,fun gh=>.pointer (some ⟨g,0,none⟩)),(9,20,fun gh=>.pointer (some ⟨g,0,none⟩)),(10,21,fun gh=>.pointer (some ⟨g,0,none⟩)),(11,22,fun gh=>.slice (some ⟨b,o,none⟩) len cap),(12,23,fun gh=>.int .i64 (len:Int)),(13,24,fun gh=>.int .i64 ((n:Int) % (len:Int))),(14,25,fun gh=>.pointer (some ⟨b,o + (n % len) * 4,none⟩)),(15,26,fun gh=>.agg #[.int .i64 r.k,.int .i64 r.a,.int .i64 r.b,.string r.t]),(16,3,fun gh=>.pointer (some ⟨(vJ (gh 16)),0,none⟩))],[(0,.pointer (some ⟨g,0,none⟩)),(2,.pointer (some ⟨b1,0,none⟩)),(4,.pointer (some ⟨g,0,none⟩)),(5,.pointer (some ⟨g,0,none⟩)),(6,.pointer (some ⟨g,0,none⟩)),(7,.slice (some ⟨b,o,none⟩) len cap),(8,.int .i64 (len:Int)),(9,.bool ((len:Int) == 0))],[⟨none,[(16,fun gh=>.box (vJ (gh 16)) [.int .i64 0,.int .i64 0,.int .i64 0,.string ⟨#[]⟩]),(17,fun gh=>.box (vJ (gh 16)) [.int .i64 r.k,.int .i64 r.a,.int .i64 r.b,.string r.t])]⟩,⟨some (.box b1 [.int .i64 0,.int .i64 0,.int .i64 0,.string ⟨#[]⟩]),[]⟩,⟨some (.box g [.slice (some ⟨b,o,none⟩) len cap,.int .i64 (n:Int)]),[]⟩],[],[[],[0],[0,1],[0,1,2],[],[4],[4,5],[4,5,6],[],[8],[8,9],[8,9,10],[8,9,10,11],[4,5,6,7,8,9,10,11,12],[0,1,2,3,4,5,6,7,8,9,10,11,12,13],[0,1,2,3,4,5,6,7,8,9,10,11,12,13,14],[],[0,1,2,3,4,5,6,7,8,9,10,11,12,13,14,15,16]],h⟩
 refine region_sx (B:=[.box b1 [.int .i64 0,.int .i64 0,.int .i64 0,.string ⟨#[]⟩],.box g [.slice (some ⟨b,o,none⟩) len cap,.int .i64 (n:Int)]]) (by kernel_rfl) R 18 (hJ.to (by kernel_rfl) (by kernel_rfl)) (by kernel_rfl) (by kernel_rfl) (by kernel_rfl) (by kernel_rfl) (by kernel_rfl) (by kernel_rfl) (by kernel_rfl) ?_ ?_
 ·intro hT hA
  have hmono:∀ zq∈R.F,∀ zx zh zi,Sees zh zi→zq.2 zx zh→zq.2 zx zi:=kJ
  refine sJ ?_ (r_store hT hA [0,1,2,3,4,5,6,7,8,9,10,11,12,13,14,15,16] (by kernel_rfl) (by kernel_rfl) (fun _=>by kernel_rfl) 0 ⟨none,[(16,fun gh=>.box (vJ (gh 16)) [.int .i64 0,.int .i64 0,.int .i64 0,.string ⟨#[]⟩]),(17,fun gh=>.box (vJ (gh 16)) [.int .i64 r.k,.int .i64 r.a,.int .i64 r.b,.string r.t])]⟩ (by kernel_rfl) (by kernel_rfl) (by kernel_rfl) (fun gh=>(vJ (gh 16))) (fun gh=>[.int .i64 0,.int .i64 0,.int .i64 0,.string ⟨#[]⟩]) (fun gh=>[.int .i64 r.k,.int .i64 r.a,.int .i64 r.b,.string r.t]) (fun _=>by kernel_rfl) (fun _=>by kernel_rfl) 47 (.tmp 3) (.tmp 26) 0 (fun gh=>.agg #[.int .i64 r.k,.int .i64 r.a,.int .i64 r.b,.string r.t]) (by kernel_rfl) (fun _=>by kernel_rfl) (fun _=>by kernel_rfl) (fun _=>by kernel_rfl) (fun _=>by kernel_rfl))
  refine sJ ?_ (r_alloc hT hA hmono ⟨fun _ _=>by kernel_rfl,fun _ _=>by kernel_rfl,fun _ _=>by kernel_rfl⟩ (by kernel_rfl) 3 [] 16 (by kernel_rfl) (fun _=>by kernel_rfl) 0 ⟨none,[(16,fun gh=>.box (vJ (gh 16)) [.int .i64 0,.int .i64 0,.int .i64 0,.string ⟨#[]⟩]),(17,fun gh=>.box (vJ (gh 16)) [.int .i64 r.k,.int .i64 r.a,.int .i64 r.b,.string r.t])]⟩ (by kernel_rfl) (by kernel_rfl) (by kernel_rfl) (fun gh=>[.int .i64 0,.int .i64 0,.int .i64 0,.string ⟨#[]⟩]) (fun _=>by kernel_rfl) (fun _=>by kernel_rfl) 47 (fun _ _=>by kernel_rfl) (fun _ _=>by kernel_rfl))
  refine sJ ?_ (r_loadf hT hA 26 (fun gh=>.agg #[.int .i64 r.k,.int .i64 r.a,.int .i64 r.b,.string r.t]) [14] 15 (by kernel_rfl) (by kernel_rfl) (by kernel_rfl) (fun _=>by kernel_rfl) hcel (Sees.refl _) 47 (.tmp 25) 0 (by kernel_rfl) (fun _=>by kernel_rfl) (fun _=>by kernel_rfl))
  refine sJ ?_ (kX hT hA 25 (fun gh=>.pointer (some ⟨b,o + (n % len) * 4,none⟩)) [3,13] 14 (fun gh w=>run_indexAddr (t:=22) (x:=(.tmp 14)) (y:=(.tmp 24)) (b:=b) (off:=o) (n:=len) (cap:=cap) (k:=(n % len)) (e:=47) (kk:=4) (by kernel_rfl) (by kernel_rfl) (by kernel_rfl) (hm) Tryz.underlying22 (by kernel_rfl)))
  refine sJ ?_ (kX hT hA 24 (fun gh=>.int .i64 ((n:Int) % (len:Int))) [7,12] 13 (fun gh w=>run_bin (op:=.rem) (t:=3) (x:=(.tmp 18)) (y:=(.tmp 23)) (yt:=3) (by kernel_rfl) (by kernel_rfl) (by kernel_rfl) (by kernel_rfl) (run_rem (n:Int) (len:Int) w (by omega) (by omega))))
  refine sJ ?_ (kX hT hA 23 (fun gh=>.int .i64 (len:Int)) [11] 12 (fun _ _=>by kernel_rfl))
  refine sJ ?_ (r_load' hT hA 22 (fun gh=>.slice (some ⟨b,o,none⟩) len cap) [10] 11 2 ⟨some (.box g [.slice (some ⟨b,o,none⟩) len cap,.int .i64 (n:Int)]),[]⟩ (fun gh=>g) (fun gh=>[.slice (some ⟨b,o,none⟩) len cap,.int .i64 (n:Int)]) 22 (.tmp 21) 0)
  refine sJ ?_ (kX hT hA 21 (fun gh=>.pointer (some ⟨g,0,none⟩)) [9] 10 (fun _ _=>by kernel_rfl))
  refine sJ ?_ (kX hT hA 20 (fun gh=>.pointer (some ⟨g,0,none⟩)) [8] 9 (fun _ _=>by kernel_rfl))
  refine sJ ?_ (kX hT hA 19 (fun gh=>.pointer (some ⟨g,0,none⟩)) [] 8 (fun _ _=>by kernel_rfl))
  refine sJ ?_ (r_load' hT hA 18 (fun gh=>.int .i64 (n:Int)) [6] 7 2 ⟨some (.box g [.slice (some ⟨b,o,none⟩) len cap,.int .i64 (n:Int)]),[]⟩ (fun gh=>g) (fun gh=>[.slice (some ⟨b,o,none⟩) len cap,.int .i64 (n:Int)]) 3 (.tmp 17) 1)
  refine sJ ?_ (kX hT hA 17 (fun gh=>.pointer (some ⟨g,1,none⟩)) [5] 6 (fun _ _=>by kernel_rfl))
  refine sJ ?_ (kX hT hA 16 (fun gh=>.pointer (some ⟨g,0,none⟩)) [4] 5 (fun _ _=>by kernel_rfl))
  refine sJ ?_ (kX hT hA 15 (fun gh=>.pointer (some ⟨g,0,none⟩)) [] 4 (fun _ _=>by kernel_rfl))
  refine sJ ?_ (r_load' hT hA 14 (fun gh=>.slice (some ⟨b,o,none⟩) len cap) [2] 3 2 ⟨some (.box g [.slice (some ⟨b,o,none⟩) len cap,.int .i64 (n:Int)]),[]⟩ (fun gh=>g) (fun gh=>[.slice (some ⟨b,o,none⟩) len cap,.int .i64 (n:Int)]) 22 (.tmp 13) 0)
  refine sJ ?_ (kX hT hA 13 (fun gh=>.pointer (some ⟨g,0,none⟩)) [1] 2 (fun _ _=>by kernel_rfl))
  refine sJ ?_ (kX hT hA 12 (fun gh=>.pointer (some ⟨g,0,none⟩)) [0] 1 (fun _ _=>by kernel_rfl))
  refine sJ ?_ (kX hT hA 11 (fun gh=>.pointer (some ⟨g,0,none⟩)) [] 0 (fun _ _=>by kernel_rfl))
  exact all_zero _
 clear hJ a w; intro gh h3 a w sR hJ1 hF; have s4:Sees h h3:=sR; clear sR
 have hJ:J ⟨49,h.w,h.bad,[g]⟩ [(0,.pointer (some ⟨g,0,none⟩)),(2,.pointer (some ⟨b1,0,none⟩)),(4,.pointer (some ⟨g,0,none⟩)),(5,.pointer (some ⟨g,0,none⟩)),(6,.pointer (some ⟨g,0,none⟩)),(7,.slice (some ⟨b,o,none⟩) len cap),(8,.int .i64 (len:Int)),(9,.bool ((len:Int) == 0)),(11,.pointer (some ⟨g,0,none⟩)),(12,.pointer (some ⟨g,0,none⟩)),(13,.pointer (some ⟨g,0,none⟩)),(14,.slice (some ⟨b,o,none⟩) len cap),(15,.pointer (some ⟨g,0,none⟩)),(16,.pointer (some ⟨g,0,none⟩)),(17,.pointer (some ⟨g,1,none⟩)),(18,.int .i64 (n:Int)),(19,.pointer (some ⟨g,0,none⟩)),(20,.pointer (some ⟨g,0,none⟩)),(21,.pointer (some ⟨g,0,none⟩)),(22,.slice (some ⟨b,o,none⟩) len cap),(23,.int .i64 (len:Int)),(24,.int .i64 ((n:Int) % (len:Int))),(25,.pointer (some ⟨b,o + (n % len) * 4,none⟩)),(26,.agg #[.int .i64 r.k,.int .i64 r.a,.int .i64 r.b,.string r.t]),(3,.pointer (some ⟨(vJ (gh 16)),0,none⟩))] [.box (vJ (gh 16)) [.int .i64 r.k,.int .i64 r.a,.int .i64 r.b,.string r.t],.box b1 [.int .i64 0,.int .i64 0,.int .i64 0,.string ⟨#[]⟩],.box g [.slice (some ⟨b,o,none⟩) len cap,.int .i64 (n:Int)]] h3 a w:=hJ1.to (by kernel_rfl) (by kernel_rfl)
 clear hJ1 hF R
 generalize vJ (gh 16)=b2 at *
 clear gh
 refine lJ ?_
 refine wp_seq ?_
 let R:Reg:=⟨⟨49,h.w,h.bad,[g]⟩,[(0,27,fun gh=>.pointer (some ⟨b2,1,none⟩)),(1,28,fun gh=>.int .i64 r.a),(2,29,fun gh=>.pointer (some ⟨g,0,none⟩)),(3,30,fun gh=>.pointer (some ⟨g,0,none⟩)),(4,31,fun gh=>.pointer (some ⟨g,1,none⟩)),(5,32,fun gh=>.int .i64 (n:Int)),(6,33,fun gh=>.pointer (some ⟨g,0,none⟩)),(7,34,fun gh=>.pointer (some ⟨g,0,none⟩)),(8,35,fun gh=>.pointer (some ⟨g,0,none⟩)),(9,36,fun gh=>.slice (some ⟨b,o,none⟩) len cap),(10,37,fun gh=>.int .i64 (len:Int)),(11,38,fun gh=>.int .i64 ((n:Int) / (len:Int))),(12,39,fun gh=>.int .i64 (IntKind.i64.wrap (r.a + (n / len:Nat)))),(13,40,fun gh=>.pointer (some ⟨b2,1,none⟩))],[(0,.pointer (some ⟨g,0,none⟩)),(2,.pointer (some ⟨b1,0,none⟩)),(4,.pointer (some ⟨g,0,none⟩)),(5,.pointer (some ⟨g,0,none⟩)),(6,.pointer (some ⟨g,0,none⟩)),(7,.slice (some ⟨b,o,none⟩) len cap),(8,.int .i64 (len:Int)),(9,.bool ((len:Int) == 0)),(11,.pointer (some ⟨g,0,none⟩)),(12,.pointer (some ⟨g,0,none⟩)),(13,.pointer (some ⟨g,0,none⟩)),(14,.slice (some ⟨b,o,none⟩) len cap),(15,.pointer (some ⟨g,0,none⟩)),(16,.pointer (some ⟨g,0,none⟩)),(17,.pointer (some ⟨g,1,none⟩)),(18,.int .i64 (n:Int)),(19,.pointer (some ⟨g,0,none⟩)),(20,.pointer (some ⟨g,0,none⟩)),(21,.pointer (some ⟨g,0,none⟩)),(22,.slice (some ⟨b,o,none⟩) len cap),(23,.int .i64 (len:Int)),(24,.int .i64 ((n:Int) % (len:Int))),(25,.pointer (some ⟨b,o + (n % len) * 4,none⟩)),(26,.agg #[.int .i64 r.k,.int .i64 r.a,.int .i64 r.b,.string r.t]),(3,.pointer (some ⟨b2,0,none⟩))],[⟨some (.box b2 [.int .i64 r.k,.int .i64 r.a,.int .i64 r.b,.string r.t]),[(14,fun gh=>.box b2 [.int .i64 r.k,.int .i64 (IntKind.i64.wrap (r.a + (n / len:Nat))),.int .i64 r.b,.string r.t])]⟩,⟨some (.box b1 [.int .i64 0,.int .i64 0,.int .i64 0,.string ⟨#[]⟩]),[]⟩,⟨some (.box g [.slice (some ⟨b,o,none⟩) len cap,.int .i64 (n:Int)]),[]⟩],[],[[],[0],[],[2],[2,3],[2,3,4],[],[6],[6,7],[6,7,8],[6,7,8,9],[2,3,4,5,6,7,8,9,10],[0,1,2,3,4,5,6,7,8,9,10,11],[0,1,2,3,4,5,6,7,8,9,10,11,12],[0,1,2,3,4,5,6,7,8,9,10,11,12,13]],h3⟩
 refine region_sx (B:=[.box b2 [.int .i64 r.k,.int .i64 r.a,.int .i64 r.b,.string r.t],.box b1 [.int .i64 0,.int .i64 0,.int .i64 0,.string ⟨#[]⟩],.box g [.slice (some ⟨b,o,none⟩) len cap,.int .i64 (n:Int)]]) (by kernel_rfl) R 15 (hJ.to (by kernel_rfl) (by kernel_rfl)) (by kernel_rfl) (by kernel_rfl) (by kernel_rfl) (by kernel_rfl) (by kernel_rfl) (by kernel_rfl) (by kernel_rfl) ?_ ?_
 ·intro hT hA
  have hmono:∀ zq∈R.F,∀ zx zh zi,Sees zh zi→zq.2 zx zh→zq.2 zx zi:=kJ
  refine sJ ?_ (r_store hT hA [0,1,2,3,4,5,6,7,8,9,10,11,12,13] (by kernel_rfl) (by kernel_rfl) (fun _=>by kernel_rfl) 0 ⟨some (.box b2 [.int .i64 r.k,.int .i64 r.a,.int .i64 r.b,.string r.t]),[(14,fun gh=>.box b2 [.int .i64 r.k,.int .i64 (IntKind.i64.wrap (r.a + (n / len:Nat))),.int .i64 r.b,.string r.t])]⟩ (by kernel_rfl) (by kernel_rfl) (by kernel_rfl) (fun gh=>b2) (fun gh=>[.int .i64 r.k,.int .i64 r.a,.int .i64 r.b,.string r.t]) (fun gh=>[.int .i64 r.k,.int .i64 (IntKind.i64.wrap (r.a + (n / len:Nat))),.int .i64 r.b,.string r.t]) (fun _=>by kernel_rfl) (fun _=>by kernel_rfl) 3 (.tmp 40) (.tmp 39) 1 (fun gh=>.int .i64 (IntKind.i64.wrap (r.a + (n / len:Nat)))) (by kernel_rfl) (fun _=>by kernel_rfl) (fun _=>by kernel_rfl) (fun _=>by kernel_rfl) (fun _=>by kernel_rfl))
  refine sJ ?_ (kX hT hA 40 (fun gh=>.pointer (some ⟨b2,1,none⟩)) [0,1,2,3,4,5,6,7,8,9,10,11,12] 13 (fun _ _=>by kernel_rfl))
  refine sJ ?_ (kX hT hA 39 (fun gh=>.int .i64 (IntKind.i64.wrap (r.a + (n / len:Nat)))) [1,11] 12 (fun _ _=>by kernel_rfl))
  refine sJ ?_ (kX hT hA 38 (fun gh=>.int .i64 ((n:Int) / (len:Int))) [5,10] 11 (fun gh w=>run_bin (op:=.quo) (t:=3) (x:=(.tmp 32)) (y:=(.tmp 37)) (yt:=3) (by kernel_rfl) (by kernel_rfl) (by kernel_rfl) (by kernel_rfl) (run_quo (n:Int) (len:Int) w (by omega) (by omega))))
  refine sJ ?_ (kX hT hA 37 (fun gh=>.int .i64 (len:Int)) [9] 10 (fun _ _=>by kernel_rfl))
  refine sJ ?_ (r_load' hT hA 36 (fun gh=>.slice (some ⟨b,o,none⟩) len cap) [8] 9 2 ⟨some (.box g [.slice (some ⟨b,o,none⟩) len cap,.int .i64 (n:Int)]),[]⟩ (fun gh=>g) (fun gh=>[.slice (some ⟨b,o,none⟩) len cap,.int .i64 (n:Int)]) 22 (.tmp 35) 0)
  refine sJ ?_ (kX hT hA 35 (fun gh=>.pointer (some ⟨g,0,none⟩)) [7] 8 (fun _ _=>by kernel_rfl))
  refine sJ ?_ (kX hT hA 34 (fun gh=>.pointer (some ⟨g,0,none⟩)) [6] 7 (fun _ _=>by kernel_rfl))
  refine sJ ?_ (kX hT hA 33 (fun gh=>.pointer (some ⟨g,0,none⟩)) [] 6 (fun _ _=>by kernel_rfl))
  refine sJ ?_ (r_load' hT hA 32 (fun gh=>.int .i64 (n:Int)) [4] 5 2 ⟨some (.box g [.slice (some ⟨b,o,none⟩) len cap,.int .i64 (n:Int)]),[]⟩ (fun gh=>g) (fun gh=>[.slice (some ⟨b,o,none⟩) len cap,.int .i64 (n:Int)]) 3 (.tmp 31) 1)
  refine sJ ?_ (kX hT hA 31 (fun gh=>.pointer (some ⟨g,1,none⟩)) [3] 4 (fun _ _=>by kernel_rfl))
  refine sJ ?_ (kX hT hA 30 (fun gh=>.pointer (some ⟨g,0,none⟩)) [2] 3 (fun _ _=>by kernel_rfl))
  refine sJ ?_ (kX hT hA 29 (fun gh=>.pointer (some ⟨g,0,none⟩)) [] 2 (fun _ _=>by kernel_rfl))
  refine sJ ?_ (r_load' hT hA 28 (fun gh=>.int .i64 r.a) [0] 1 0 ⟨some (.box b2 [.int .i64 r.k,.int .i64 r.a,.int .i64 r.b,.string r.t]),[(14,fun gh=>.box b2 [.int .i64 r.k,.int .i64 (IntKind.i64.wrap (r.a + (n / len:Nat))),.int .i64 r.b,.string r.t])]⟩ (fun gh=>b2) (fun gh=>[.int .i64 r.k,.int .i64 r.a,.int .i64 r.b,.string r.t]) 3 (.tmp 27) 1)
  refine sJ ?_ (kX hT hA 27 (fun gh=>.pointer (some ⟨b2,1,none⟩)) [] 0 (fun _ _=>by kernel_rfl))
  exact all_zero _
 clear hJ a w; intro gh h5 a w sR hJ1 hF; have s6:Sees h3 h5:=sR; clear sR
 have hJ:J ⟨49,h.w,h.bad,[g]⟩ [(0,.pointer (some ⟨g,0,none⟩)),(2,.pointer (some ⟨b1,0,none⟩)),(4,.pointer (some ⟨g,0,none⟩)),(5,.pointer (some ⟨g,0,none⟩)),(6,.pointer (some ⟨g,0,none⟩)),(7,.slice (some ⟨b,o,none⟩) len cap),(8,.int .i64 (len:Int)),(9,.bool ((len:Int) == 0)),(11,.pointer (some ⟨g,0,none⟩)),(12,.pointer (some ⟨g,0,none⟩)),(13,.pointer (some ⟨g,0,none⟩)),(14,.slice (some ⟨b,o,none⟩) len cap),(15,.pointer (some ⟨g,0,none⟩)),(16,.pointer (some ⟨g,0,none⟩)),(17,.pointer (some ⟨g,1,none⟩)),(18,.int .i64 (n:Int)),(19,.pointer (some ⟨g,0,none⟩)),(20,.pointer (some ⟨g,0,none⟩)),(21,.pointer (some ⟨g,0,none⟩)),(22,.slice (some ⟨b,o,none⟩) len cap),(23,.int .i64 (len:Int)),(24,.int .i64 ((n:Int) % (len:Int))),(25,.pointer (some ⟨b,o + (n % len) * 4,none⟩)),(26,.agg #[.int .i64 r.k,.int .i64 r.a,.int .i64 r.b,.string r.t]),(3,.pointer (some ⟨b2,0,none⟩)),(27,.pointer (some ⟨b2,1,none⟩)),(28,.int .i64 r.a),(29,.pointer (some ⟨g,0,none⟩)),(30,.pointer (some ⟨g,0,none⟩)),(31,.pointer (some ⟨g,1,none⟩)),(32,.int .i64 (n:Int)),(33,.pointer (some ⟨g,0,none⟩)),(34,.pointer (some ⟨g,0,none⟩)),(35,.pointer (some ⟨g,0,none⟩)),(36,.slice (some ⟨b,o,none⟩) len cap),(37,.int .i64 (len:Int)),(38,.int .i64 ((n:Int) / (len:Int))),(39,.int .i64 (IntKind.i64.wrap (r.a + (n / len:Nat)))),(40,.pointer (some ⟨b2,1,none⟩))] [.box b2 [.int .i64 r.k,.int .i64 (IntKind.i64.wrap (r.a + (n / len:Nat))),.int .i64 r.b,.string r.t],.box b1 [.int .i64 0,.int .i64 0,.int .i64 0,.string ⟨#[]⟩],.box g [.slice (some ⟨b,o,none⟩) len cap,.int .i64 (n:Int)]] h5 a w:=hJ1.to (by kernel_rfl) (by kernel_rfl)
 clear hJ1 hF R
 clear gh
 refine lJ ?_
 refine wp_seq ?_
 refine wp_region_lit ?_
 refine dY hJ 41 (.pointer (some ⟨g,0,none⟩)) (by kernel_rfl) (fun _=>by kernel_rfl) ?_; clear hJ a; intro a hJ
 refine dY hJ 42 (.pointer (some ⟨g,0,none⟩)) (by kernel_rfl) (fun _=>by kernel_rfl) ?_; clear hJ a; intro a hJ
 refine dY hJ 43 (.pointer (some ⟨g,1,none⟩)) (by kernel_rfl) (fun _=>by kernel_rfl) ?_; clear hJ a; intro a hJ
 refine aY hJ (t:=3) (x:=(.tmp 43)) 44 (.int .i64 (n:Int)) 2 (b:=g) (off:=1) (cs:=[.slice (some ⟨b,o,none⟩) len cap,.int .i64 (n:Int)]) (by kernel_rfl) (by kernel_rfl) (by kernel_rfl) (by kernel_rfl) (by kernel_rfl) ?_; clear hJ a; intro a hJ
 refine dY hJ 45 (.int .i64 ((n:Int) + 1)) (by kernel_rfl) (fun w=>xX (by kernel_rfl) (jJ (by omega) (by omega))) ?_; clear hJ a; intro a hJ
 refine dY hJ 46 (.pointer (some ⟨g,0,none⟩)) (by kernel_rfl) (fun _=>by kernel_rfl) ?_; clear hJ a; intro a hJ
 refine dY hJ 47 (.pointer (some ⟨g,1,none⟩)) (by kernel_rfl) (fun _=>by kernel_rfl) ?_; clear hJ a; intro a hJ
 refine eY hJ (t:=3) (x:=(.tmp 47)) (y:=(.tmp 45)) 2 (.int .i64 ((n:Int) + 1)) (b:=g) (off:=1) (cs:=[.slice (some ⟨b,o,none⟩) len cap,.int .i64 (n:Int)]) [.slice (some ⟨b,o,none⟩) len cap,.int .i64 ((n:Int) + 1)] (by kernel_rfl) (by kernel_rfl) (by kernel_rfl) (by kernel_rfl) (by kernel_rfl) (by kernel_rfl) (by kernel_rfl) ?_; clear hJ w; intro w hJ
 refine wpList_nil ?_
 refine lJ ?_
 refine wp_seq ?_
 refine wp_region_lit ?_
 refine aY hJ (t:=47) (x:=(.tmp 3)) 48 (.agg #[.int .i64 r.k,.int .i64 (IntKind.i64.wrap (r.a + (n / len:Nat))),.int .i64 r.b,.string r.t]) 0 (b:=b2) (off:=0) (cs:=[.int .i64 r.k,.int .i64 (IntKind.i64.wrap (r.a + (n / len:Nat))),.int .i64 r.b,.string r.t]) (by kernel_rfl) (by kernel_rfl) (by kernel_rfl) (by kernel_rfl) (by kernel_rfl) ?_; clear hJ a; intro a hJ
 refine eY hJ (t:=47) (x:=(.tmp 2)) (y:=(.tmp 48)) 1 (.agg #[.int .i64 r.k,.int .i64 (IntKind.i64.wrap (r.a + (n / len:Nat))),.int .i64 r.b,.string r.t]) (b:=b1) (off:=0) (cs:=[.int .i64 0,.int .i64 0,.int .i64 0,.string ⟨#[]⟩]) [.int .i64 r.k,.int .i64 (IntKind.i64.wrap (r.a + (n / len:Nat))),.int .i64 r.b,.string r.t] (by kernel_rfl) (by kernel_rfl) (by kernel_rfl) (by kernel_rfl) (by kernel_rfl) (by kernel_rfl) (by kernel_rfl) ?_; clear hJ w; intro w hJ
 refine wpList_nil ?_
 refine lJ ?_
 refine wp_ret ?_
 refine (hQ [.agg #[.int .i64 r.k,.int .i64 (IntKind.i64.wrap (r.a + (n / len:Nat))),.int .i64 r.b,.string r.t]] [.box b2 [.int .i64 r.k,.int .i64 (IntKind.i64.wrap (r.a + (n / len:Nat))),.int .i64 r.b,.string r.t],.box b1 [.int .i64 r.k,.int .i64 (IntKind.i64.wrap (r.a + (n / len:Nat))),.int .i64 r.b,.string r.t]] [(g,[.slice (some ⟨b,o,none⟩) len cap,.int .i64 ((n:Int) + 1)])] hJ (.rcell hJ 1 (b:=b1) (cs:=[.int .i64 r.k,.int .i64 (IntKind.i64.wrap (r.a + (n / len:Nat))),.int .i64 r.b,.string r.t]) (by kernel_rfl) (by kernel_rfl) (by kernel_rfl) .nil) (by kernel_rfl) (by kernel_rfl) ?_).1
 exact ⟨_,rfl,rfl,rfl⟩
end Go.Proofs.YtmoahpojchndiaaGreat
