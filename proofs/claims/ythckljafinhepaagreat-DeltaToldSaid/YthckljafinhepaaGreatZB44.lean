/-
  Contract of delta.Differ; of the laws' Inputs within a drawn region.
-/
import Derived.Test.YthckljafinhepaaGreatZB43
import Derived.Test.YthckljafinhepaaGreatZB42
namespace Go.Proofs.YthckljafinhepaaGreat
open Go.RowKit
set_option linter.unusedVariables false

theorem CRow.c0 {P:Program} {f:FuncId} {args:Array Value} {h:Vw} {e:TypeId} {k:Nat} {R:Value→List (List Value)→Prop} (hc:CRow P f args h e k R):C0 P f args h (fun v h'=>∃ l u,v=.slice (sA u) (sN u) (sC u)∧RS h' k (.slice (sA u) (sN u) (sC u)) l∧R v l):=by
 intro a1 a2 a3 a4
 refine (hc a1 a2 a3 a4).mono ?_
 rintro e w' ⟨v,Bo,h1,h2,h3,h4,l,h5,h6⟩
 obtain ⟨A,c,rfl,-,-⟩:=row_form h5
 exact ⟨_,Bo,h1,h2,h3,h4,l,.slice A l.length c,rfl,row_rs h5 (fun b hb hm=>by have:=a4 b hm; have:=(h5.1.lt b hb).1; omega),h6⟩
/-- A slice of n rows, as a call in a drawn region tells it. -/
def RSn (h:Vw) (k:Nat) (u:Value) (n:Nat) (l:List (List Value)):Prop:=sN u=n∧RS h k (.slice (sA u) (sN u) (sC u)) l
theorem RSn.sees {h h':Vw} {k n:Nat} {u:Value} {l:List (List Value)} (c:RSn h k u n l) (s:Sees h h'):RSn h' k u n l:=⟨c.1,c.2.sees s⟩
theorem inputs_u (fs:List Fd) (pv fv:Value) (l:List RawD) (sl:Value) (h:Vw) (hf:IsFds h fv fs) (hpv:.slice (sA pv) (sN pv) (sC pv)=pv) (hfl:fs.length≤100) (ht:∀ f∈fs,1≤f.ty∧f.ty≤3) (hr:RS h 4 sl (l.map RawD.cs)) (hlen:l.length * 40≤reachBytes) (ok:∀ r∈l,r.ok) :
  C0 Tryz.prog 16 #[.agg #[fv,pv],sl] h (fun v h'=>∃ u,v=.slice (sA u) (sN u) (sC u)∧RS h' 7 (.slice (sA u) (sN u) (sC u)) (fcRows (inpE fs l))):=by
 refine (CRow.c0 (inputs_any fs pv fv l sl h hf hpv hfl ht hr hlen ok)).mono fun v h' _=>?_
 rintro ⟨m,u,h1,h2,rfl⟩
 exact ⟨u,h1,h2⟩

/-- The names of those fields whose values are not the same. -/
def diffN:List Fd→List Vl→List Vl→List ByteArray
 | f :: fs,v :: vs,w :: ws=>(if eqB v w=true then [] else [f.name])++diffN fs vs ws
 | _,_,_=>[]
theorem diffN_snoc:∀ {fs:List Fd} {vs ws:List Vl} (f:Fd) (v w:Vl),vs.length=fs.length→ws.length=fs.length→diffN (fs++[f]) (vs++[v]) (ws++[w])=diffN fs vs ws++(if eqB v w=true then [] else [f.name])
 | [],[],[],f,v,w,_,_=>by simp [diffN]
 | g :: fs,x :: vs,y :: ws,f,v,w,h1,h2=>by
  show _++diffN (fs++[f]) (vs++[v]) (ws++[w])=(_++diffN fs vs ws)++_
  rw [diffN_snoc f v w (by simpa using h1) (by simpa using h2),List.append_assoc]
 | [],_ :: _,_,_,_,_,h,_=>by simp at h
 | [],[],_ :: _,_,_,_,_,h=>by simp at h
 | _ :: _,[],_,_,_,_,h,_=>by simp at h
 | _ :: _,_ :: _,[],_,_,_,_,h=>by simp at h
theorem diffN_len:∀ (fs:List Fd) (vs ws:List Vl),(diffN fs vs ws).length≤fs.length
 | [],_,_=>by simp [diffN]
 | f :: fs,[],_=>by simp [diffN]
 | f :: fs,_ :: _,[]=>by simp [diffN]
 | f :: fs,v :: vs,w :: ws=>by
  have:=diffN_len fs vs ws
  unfold diffN
  rw [List.length_append,List.length_cons]
  split <;> simp <;> omega
theorem diffN_mem:∀ {fs:List Fd} {vs ws:List Vl} {s:ByteArray},s∈diffN fs vs ws↔∃ (i:Nat) (f:Fd) (v w:Vl),fs[i]?=some f∧vs[i]?=some v∧ws[i]?=some w∧f.name=s∧eqB v w=false
 | [],_,_,s=>⟨fun h=>by simp [diffN] at h,fun ⟨i,f,_,_,h,_⟩=>by simp at h⟩
 | f :: fs,[],_,s=>⟨fun h=>by simp [diffN] at h,fun ⟨i,_,_,_,_,h,_⟩=>by simp at h⟩
 | f :: fs,_ :: _,[],s=>⟨fun h=>by simp [diffN] at h,fun ⟨i,_,_,_,_,_,h,_⟩=>by simp at h⟩
 | f :: fs,v :: vs,w :: ws,s=>by
  unfold diffN
  rw [List.mem_append,diffN_mem]
  constructor
  ·rintro (h | ⟨i,g,x,y,h1,h2,h3,h4,h5⟩)
   ·split at h
    ·cases h
    ·rename_i q
     exact ⟨0,f,v,w,rfl,rfl,rfl,(List.mem_singleton.1 h).symm,Bool.eq_false_iff.2 q⟩
   ·exact ⟨i + 1,g,x,y,by simpa using h1,by simpa using h2,by simpa using h3,h4,h5⟩
  ·rintro ⟨i,g,x,y,h1,h2,h3,h4,h5⟩
   cases i with
   | zero =>
    simp only [List.getElem?_cons_zero,Option.some.injEq] at h1 h2 h3
    subst h1 h2 h3
    exact .inl (by rw [if_neg (by rw [h5]; exact Bool.false_ne_true),h4]; simp)
   | succ i=>exact .inr ⟨i,g,x,y,by simpa using h1,by simpa using h2,by simpa using h3,h4,h5⟩
theorem diffN_self (fs:List Fd) (vs:List Vl):diffN fs vs vs=[]:=by
 refine List.eq_nil_iff_forall_not_mem.2 fun s hs=>?_
 obtain ⟨i,f,v,w,-,h2,h3,-,h5⟩:=diffN_mem.1 hs
 rw [h2] at h3
 rw [eqB_iff.2 (Option.some.inj h3)] at h5; cases h5
/-- Of a field at its place: does its name stand among those that differ? -/
theorem diffN_at {fs:List Fd} (hd:(fs.map (fun f:Fd=>f.name)).Nodup) {vs ws:List Vl} {i:Nat} {f:Fd} {v w:Vl} (h1:fs[i]?=some f) (h2:vs[i]?=some v) (h3:ws[i]?=some w):memS (diffN fs vs ws) f.name = !eqB v w:=by
 rw [Bool.eq_iff_iff,memS_iff,diffN_mem,Bool.not_eq_true']
 constructor
 ·rintro ⟨j,g,x,y,g1,g2,g3,g4,g5⟩
  have e1:=findF_at hd g1
  rw [g4,findF_at hd h1] at e1
  have e1:i=j:=by omega
  subst e1
  rw [h2] at g2; rw [h3] at g3
  rw [Option.some.inj g2,Option.some.inj g3]; exact g5
 ·intro q
  exact ⟨i,f,v,w,h1,h2,h3,rfl,q⟩

set_option maxHeartbeats 4000000 in
set_option maxRecDepth 100000 in
theorem differ_any (fs:List Fd) (va vb:List Vl) (A:Option Addr) (n c:Nat) (A1:Option Addr) (c1:Nat) (A2:Option Addr) (c2:Nat) (h:Vw) (hf:IsFds h (.slice A n c) fs) (hn:n=fs.length) (few:n≤1000000) (ha:RS h 3 (.slice A1 n c1) (vlRows va)) (hb:RS h 3 (.slice A2 n c2) (vlRows vb)) (la:va.length=n) (lb:vb.length=n) :
  C0 Tryz.prog 29 #[.slice A n c,.slice A1 n c1,.slice A2 n c2] h (fun r h'=>∃ A c,r=.tuple #[.slice A (diffN fs va vb).length c,.int .i64 0]∧RS h' 1 (.slice A (diffN fs va vb).length c) (strRows (diffN fs va vb))):=by
 obtain ⟨vs,A',c',e,-,-,hr,hs,hvl,hsl⟩:=fds_open hf
 simp only [Value.slice.injEq] at e
 obtain ⟨rfl,-,rfl⟩:=e
 rw [← hn] at hr hvl
 have hfl:=fun k=>diffN_len (fs.take k) (va.take k) (vb.take k)
 refine x_con Tryz.func29 (c:=Tryz.f29.body.getD .skip) (by kernel_rfl) (N:=46) rfl (by kernel_rfl) ?_
 intro hbx hbad Q hQ a w hJ
 replace hJ:K ⟨46,h.w,h.bad,[]⟩ [(0,.slice A n c),(1,.slice A1 n c1),(2,.slice A2 n c2)] [] [] h a w:=hJ.to (by kernel_rfl) (by kernel_rfl) rfl
 refine rk hJ false 40 [] [(15,.bool ((n:Int) != (n:Int)),.bool false),(21,.bool ((n:Int) != (n:Int)),.bool false)] (.k (.code [0,1,0,1,1,1]) [.block 0,.seq [1,1,1,1]] [1,2] [(8,Vz),(23,.slice A n c),(24,Vi (n:Int)),(25,Vi 0)]) trivial (And.intro (congrArg Value.bool (by simp)) (And.intro (congrArg Value.bool (by simp)) (trivial))) (fun _=>by kernel_rfl) ?_
 clear hJ a w; intro a w hJ
 replace hJ:=hJ.nilrow 9 1
 refine x_loop (fun (k:Nat) a w=>∃ (h1:Vw) (v:Value),K ⟨46,h.w,h.bad,[]⟩ [(1,.slice A1 n c1),(2,.slice A2 n c2),(23,.slice A n c),(24,Vi (n:Int)),(25,Vi (k:Int)),(8,v)] [.row v 9 1 (strRows (diffN (fs.take k) (va.take k) (vb.take k)))] [] h1 a w∧Sees h h1∧(k≤n)) (fun k=>n - k) (0) (by kernel_rfl) ⟨h,(Vz),hJ.to (by kernel_rfl) (by kernel_rfl) rfl,Sees.refl _,Nat.zero_le _⟩ ?_
 clear hJ a w; rintro k a w ⟨h1,v,hJ,s2,hk⟩
 refine rk hJ false 6 [] [] (.k (.code [0,1,0,0,1,0,1,1,1]) [.seq [1,1,0,0,1,0,1,1,1]] [1,2,23,24,25,8] [(26,.bool (decide ((k:Int) < (n:Int))))]) trivial trivial (fun _=>by kernel_rfl) ?_
 clear hJ a w; intro a w hJ
 rcases (by omega:k < n∨k=n) with hlt | hke
 ·obtain ⟨x,hx⟩:∃ x,fs[k]?=some x:=⟨_,List.getElem?_eq_getElem (by omega)⟩
  obtain ⟨u,hu⟩:∃ u,vs[k]?=some u:=⟨_,List.getElem?_eq_getElem (by omega)⟩
  obtain ⟨xa,hxa⟩:∃ y,va[k]?=some y:=⟨_,List.getElem?_eq_getElem (by omega)⟩
  obtain ⟨xb,hxb⟩:∃ y,vb[k]?=some y:=⟨_,List.getElem?_eq_getElem (by omega)⟩
  have hrow:=fdRows_get hx hu
  have hra:=vlRows_get hxa
  have hrb:=vlRows_get hxb
  obtain ⟨Au,nu,cu,rfl⟩:=(AllArgs.get hs (x:=x.src) (by rw [List.getElem?_map,hx]; rfl) hu).slice
  have hsn:=diffN_snoc (fs:=fs.take k) (vs:=va.take k) (ws:=vb.take k) x xa xb (by simp; omega) (by simp; omega)
  rw [← take_snoc' _ k x hx,← take_snoc' _ k xa hxa,← take_snoc' _ k xb hxb] at hsn
  have hl2:=hfl k
  rw [List.length_take] at hl2
  by_cases g:eqB xa xb=true
  ·rw [if_pos g,List.append_nil] at hsn
   refine x_true hJ (t:=decide ((k:Int) < (n:Int))) (by kernel_rfl) (decide_eq_true (by omega)) ?_
   refine rk hJ false 7 [] [] (.k (.ops [0,0,0,1,1,0,0,1,0,1,1,1] 1) [.seq [1,0,0,1,1,0,0,1,0,1,1,1],.block 1,.seq [1,1,1,0,0,1,0,1,1,1]] [1,2,23,24,25,8] [(27,Vi (k:Int))]) trivial trivial (fun _=>by kernel_rfl) ?_
   clear hJ a w; intro a w hJ
   obtain ⟨b3,o4,rfl,-,c5⟩:=RS.row hr (hrow)
   replace hJ:=hJ.fact (c5.sees s2)
   refine rk hJ false 8 [.ix b3 o4 n c k,.f 0 0,.own,.b 0 0] [] (.new fun b6=>.f (.code [0,1,0,0,1,1,0,0,1,0,1,1,1]) [.seq [1,1,0,0,1,1,0,0,1,0,1,1,1],.block 1,.seq [1,1,1,0,0,1,0,1,1,1]] [1,2,23,24,25,8] [(10,Vp b6),(9,Vi (k:Int))] [.box b6 [.string x.name,Vi x.kind,Vi x.ty,Vi x.src.op,Vi x.src.k,Vi x.src.n,.string x.src.s,.string x.src.nm,.slice Au nu cu],.row v 9 1 (strRows (diffN (fs.take k) (va.take k) (vb.take k)))] [.o 0]) (And.intro (by first | omega | (simp; omega)) (trivial)) trivial (fun b6 _=>by kernel_rfl) ?_
   clear hJ a w; intro b6 a w hJ
   obtain ⟨b7,o8,rfl,-,c9⟩:=RS.row ha (hra)
   replace hJ:=hJ.fact (c9.sees s2)
   obtain ⟨b10,o11,rfl,-,c12⟩:=RS.row hb (hrb)
   replace hJ:=hJ.fact (c12.sees s2)
   let R:Reg:=⟨⟨46,h.w,h.bad,[]⟩,[(0,30,fun gh=>.slice (some ⟨b7,o8,none⟩) n c1),(1,31,fun gh=>Vi (k:Int)),(2,32,fun gh=>.pointer (some ⟨b7,o8 + k * 3,none⟩)),(3,33,fun gh=>.agg #[Vi xa.k,Vi xa.n,.string xa.s]),(4,34,fun gh=>.slice (some ⟨b10,o11,none⟩) n c2),(5,35,fun gh=>Vi (k:Int)),(6,36,fun gh=>.pointer (some ⟨b10,o11 + k * 3,none⟩)),(7,37,fun gh=>.agg #[Vi xb.k,Vi xb.n,.string xb.s]),(8,38,fun gh=>.bool false)],[(1,.slice (some ⟨b7,o8,none⟩) n c1),(2,.slice (some ⟨b10,o11,none⟩) n c2),(23,.slice (some ⟨b3,o4,none⟩) n c),(24,Vi (n:Int)),(25,Vi (k:Int)),(8,v),(10,Vp b6),(9,Vi (k:Int))],[⟨some (.box b6 [.string x.name,Vi x.kind,Vi x.ty,Vi x.src.op,Vi x.src.k,Vi x.src.n,.string x.src.s,.string x.src.nm,.slice Au nu cu]),[]⟩,⟨some (.row v 9 1 (strRows (diffN (fs.take k) (va.take k) (vb.take k)))),[]⟩],[],[[],[],[0,1],[0,1,2],[],[],[4,5],[4,5,6],[0,1,2,3,4,5,6,7]],h1⟩
   have hmono:∀ zq∈R.F,∀ zx zh zi,Sees zh zi→zq.2 zx zh→zq.2 zx zi:=mono_nil
   refine x_region (by kernel_rfl) R hJ 9 [.pu,.pu,.cl,.lf 1 0,.pu,.pu,.cl,.lf 0 0,.cl] (by kernel_rfl) hmono (fun _ _ _=>by kernel_rfl) (fun hT hA=>?_) ?_
   ·clear hJ
    refine And.intro (r_pure hT hA 32 (fun gh=>.pointer (some ⟨b7,o8 + k * 3,none⟩)) [0,1] 2 (by kernel_rfl) (by kernel_rfl) (by kernel_rfl) (fun _=>by kernel_rfl) (fun gh w=>run_indexAddr (t:=32) (x:=(.tmp 30)) (y:=(.tmp 31)) (b:=b7) (off:=o8) (n:=n) (cap:=c1) (k:=k) (e:=38) (kk:=3) (by kernel_rfl) (by kernel_rfl) (by kernel_rfl) (by first | omega | (simp; omega)) Tryz.underlying32 (by kernel_rfl))) ?_
    refine And.intro (r_pure hT hA 36 (fun gh=>.pointer (some ⟨b10,o11 + k * 3,none⟩)) [4,5] 6 (by kernel_rfl) (by kernel_rfl) (by kernel_rfl) (fun _=>by kernel_rfl) (fun gh w=>run_indexAddr (t:=32) (x:=(.tmp 34)) (y:=(.tmp 35)) (b:=b10) (off:=o11) (n:=n) (cap:=c2) (k:=k) (e:=38) (kk:=3) (by kernel_rfl) (by kernel_rfl) (by kernel_rfl) (by first | omega | (simp; omega)) Tryz.underlying32 (by kernel_rfl))) ?_
    refine And.intro (r_pure hT hA 38 (fun gh=>.bool false) [3,7] 8 (by kernel_rfl) (by kernel_rfl) (by kernel_rfl) (fun _=>by kernel_rfl) (fun gh w=>run_neqop (x:=(.tmp 33)) (y:=(.tmp 37)) (v:=xa) (w:=xb) (by kernel_rfl) (by kernel_rfl) (by kernel_rfl) (g))) ?_
    trivial
   clear hJ a w; intro gh h13 a w sR hJ1 hF; have s14:Sees h1 h13:=sR; clear sR
   have hJ:K ⟨46,h.w,h.bad,[]⟩ [(1,.slice (some ⟨b7,o8,none⟩) n c1),(2,.slice (some ⟨b10,o11,none⟩) n c2),(23,.slice (some ⟨b3,o4,none⟩) n c),(24,Vi (n:Int)),(25,Vi (k:Int)),(8,v),(10,Vp b6),(38,.bool false)] [.box b6 [.string x.name,Vi x.kind,Vi x.ty,Vi x.src.op,Vi x.src.k,Vi x.src.n,.string x.src.s,.string x.src.nm,.slice Au nu cu],.row v 9 1 (strRows (diffN (fs.take k) (va.take k) (vb.take k)))] [(b10,o11 + k * 3,[Vi xb.k,Vi xb.n,.string xb.s]),(b7,o8 + k * 3,[Vi xa.k,Vi xa.n,.string xa.s]),(b3,o4 + k * 9,[.string x.name,Vi x.kind,Vi x.ty,Vi x.src.op,Vi x.src.k,Vi x.src.n,.string x.src.s,.string x.src.nm,.slice Au nu cu])] h13 a w:=hJ1.to (by kernel_rfl) (by kernel_rfl) rfl
   clear hJ1 hF hmono R
   clear gh
   refine rk hJ false 9 [] [(44,Vi (IntKind.i64.wrap ((k:Int) + 1)),Vi ((k:Int) + 1))] (.k (.out .normal) [] [1,2,23,24,8] [(25,Vi ((k:Int) + 1))]) trivial (And.intro (i64_wrap (by omega) (by omega)) (trivial)) (fun _=>by kernel_rfl) ?_
   clear hJ a w; intro a w hJ
   replace hJ:=hJ.drop 0
   exact x_round ⟨k + 1,⟨h13,v,(hJ.tof [] (F':=[]) (by kernel_rfl)).to (by kernel_rfl) (by rw [hsn]; rfl) rfl,(s2.trans s14),by omega⟩,by omega⟩
  ·skip
   rw [if_neg g] at hsn
   refine x_true hJ (t:=decide ((k:Int) < (n:Int))) (by kernel_rfl) (decide_eq_true (by omega)) ?_
   refine rk hJ false 7 [] [] (.k (.ops [0,0,0,1,1,0,0,1,0,1,1,1] 1) [.seq [1,0,0,1,1,0,0,1,0,1,1,1],.block 1,.seq [1,1,1,0,0,1,0,1,1,1]] [1,2,23,24,25,8] [(27,Vi (k:Int))]) trivial trivial (fun _=>by kernel_rfl) ?_
   clear hJ a w; intro a w hJ
   obtain ⟨b15,o16,rfl,-,c17⟩:=RS.row hr (hrow)
   replace hJ:=hJ.fact (c17.sees s2)
   refine rk hJ false 8 [.ix b15 o16 n c k,.f 0 0,.own,.b 0 0] [] (.new fun b18=>.f (.code [0,1,0,0,1,1,0,0,1,0,1,1,1]) [.seq [1,1,0,0,1,1,0,0,1,0,1,1,1],.block 1,.seq [1,1,1,0,0,1,0,1,1,1]] [1,2,23,24,25,8] [(10,Vp b18),(9,Vi (k:Int))] [.box b18 [.string x.name,Vi x.kind,Vi x.ty,Vi x.src.op,Vi x.src.k,Vi x.src.n,.string x.src.s,.string x.src.nm,.slice Au nu cu],.row v 9 1 (strRows (diffN (fs.take k) (va.take k) (vb.take k)))] [.o 0]) (And.intro (by first | omega | (simp; omega)) (trivial)) trivial (fun b18 _=>by kernel_rfl) ?_
   clear hJ a w; intro b18 a w hJ
   obtain ⟨b19,o20,rfl,-,c21⟩:=RS.row ha (hra)
   replace hJ:=hJ.fact (c21.sees s2)
   obtain ⟨b22,o23,rfl,-,c24⟩:=RS.row hb (hrb)
   replace hJ:=hJ.fact (c24.sees s2)
   let R:Reg:=⟨⟨46,h.w,h.bad,[]⟩,[(0,30,fun gh=>.slice (some ⟨b19,o20,none⟩) n c1),(1,31,fun gh=>Vi (k:Int)),(2,32,fun gh=>.pointer (some ⟨b19,o20 + k * 3,none⟩)),(3,33,fun gh=>.agg #[Vi xa.k,Vi xa.n,.string xa.s]),(4,34,fun gh=>.slice (some ⟨b22,o23,none⟩) n c2),(5,35,fun gh=>Vi (k:Int)),(6,36,fun gh=>.pointer (some ⟨b22,o23 + k * 3,none⟩)),(7,37,fun gh=>.agg #[Vi xb.k,Vi xb.n,.string xb.s]),(8,38,fun gh=>.bool true)],[(1,.slice (some ⟨b19,o20,none⟩) n c1),(2,.slice (some ⟨b22,o23,none⟩) n c2),(23,.slice (some ⟨b15,o16,none⟩) n c),(24,Vi (n:Int)),(25,Vi (k:Int)),(8,v),(10,Vp b18),(9,Vi (k:Int))],[⟨some (.box b18 [.string x.name,Vi x.kind,Vi x.ty,Vi x.src.op,Vi x.src.k,Vi x.src.n,.string x.src.s,.string x.src.nm,.slice Au nu cu]),[]⟩,⟨some (.row v 9 1 (strRows (diffN (fs.take k) (va.take k) (vb.take k)))),[]⟩],[],[[],[],[0,1],[0,1,2],[],[],[4,5],[4,5,6],[0,1,2,3,4,5,6,7]],h1⟩
   have hmono:∀ zq∈R.F,∀ zx zh zi,Sees zh zi→zq.2 zx zh→zq.2 zx zi:=mono_nil
   refine x_region (by kernel_rfl) R hJ 9 [.pu,.pu,.cl,.lf 1 0,.pu,.pu,.cl,.lf 0 0,.cl] (by kernel_rfl) hmono (fun _ _ _=>by kernel_rfl) (fun hT hA=>?_) ?_
   ·clear hJ
    refine And.intro (r_pure hT hA 32 (fun gh=>.pointer (some ⟨b19,o20 + k * 3,none⟩)) [0,1] 2 (by kernel_rfl) (by kernel_rfl) (by kernel_rfl) (fun _=>by kernel_rfl) (fun gh w=>run_indexAddr (t:=32) (x:=(.tmp 30)) (y:=(.tmp 31)) (b:=b19) (off:=o20) (n:=n) (cap:=c1) (k:=k) (e:=38) (kk:=3) (by kernel_rfl) (by kernel_rfl) (by kernel_rfl) (by first | omega | (simp; omega)) Tryz.underlying32 (by kernel_rfl))) ?_
    refine And.intro (r_pure hT hA 36 (fun gh=>.pointer (some ⟨b22,o23 + k * 3,none⟩)) [4,5] 6 (by kernel_rfl) (by kernel_rfl) (by kernel_rfl) (fun _=>by kernel_rfl) (fun gh w=>run_indexAddr (t:=32) (x:=(.tmp 34)) (y:=(.tmp 35)) (b:=b22) (off:=o23) (n:=n) (cap:=c2) (k:=k) (e:=38) (kk:=3) (by kernel_rfl) (by kernel_rfl) (by kernel_rfl) (by first | omega | (simp; omega)) Tryz.underlying32 (by kernel_rfl))) ?_
    refine And.intro (r_pure hT hA 38 (fun gh=>.bool true) [3,7] 8 (by kernel_rfl) (by kernel_rfl) (by kernel_rfl) (fun _=>by kernel_rfl) (fun gh w=>run_neqop (x:=(.tmp 33)) (y:=(.tmp 37)) (v:=xa) (w:=xb) (by kernel_rfl) (by kernel_rfl) (by kernel_rfl) (Bool.eq_false_iff.2 g))) ?_
    trivial
   clear hJ a w; intro gh h25 a w sR hJ1 hF; have s26:Sees h1 h25:=sR; clear sR
   have hJ:K ⟨46,h.w,h.bad,[]⟩ [(1,.slice (some ⟨b19,o20,none⟩) n c1),(2,.slice (some ⟨b22,o23,none⟩) n c2),(23,.slice (some ⟨b15,o16,none⟩) n c),(24,Vi (n:Int)),(25,Vi (k:Int)),(8,v),(10,Vp b18),(38,.bool true)] [.box b18 [.string x.name,Vi x.kind,Vi x.ty,Vi x.src.op,Vi x.src.k,Vi x.src.n,.string x.src.s,.string x.src.nm,.slice Au nu cu],.row v 9 1 (strRows (diffN (fs.take k) (va.take k) (vb.take k)))] [(b22,o23 + k * 3,[Vi xb.k,Vi xb.n,.string xb.s]),(b19,o20 + k * 3,[Vi xa.k,Vi xa.n,.string xa.s]),(b15,o16 + k * 9,[.string x.name,Vi x.kind,Vi x.ty,Vi x.src.op,Vi x.src.k,Vi x.src.n,.string x.src.s,.string x.src.nm,.slice Au nu cu])] h25 a w:=hJ1.to (by kernel_rfl) (by kernel_rfl) rfl
   clear hJ1 hF hmono R
   clear gh
   refine rk hJ true 7 [.b 0 0,.fix] [] (.new fun b27=>.g (.ops [0,1,1,0,0,1,1,0,0,1,0,1,1,1] 4) [.block 1,.seq [1,1,1,0,0,1,0,1,1,1]] [1,2,23,24,25] [(39,v),(42,Vs b27 1 1)] [.n (b27,0,[.string x.name]),.o 0,.o 1,.o 2]) trivial trivial (fun b27 _=>by kernel_rfl) ?_
   clear hJ a w; intro b27 h28 a w s29 hJ
   refine rx hJ true 9 [.ap 1 0 (strRows (diffN (fs.take k) (va.take k) (vb.take k))) [[.string x.name]]] [(44,Vi (IntKind.i64.wrap ((k:Int) + 1)),Vi ((k:Int) + 1))] (.nv fun v43=>.ok (.out .normal) [] [(1,.slice (some ⟨b19,o20,none⟩) n c1),(2,.slice (some ⟨b22,o23,none⟩) n c2),(23,.slice (some ⟨b15,o16,none⟩) n c),(24,Vi (n:Int)),(8,.slice (sA v43) (sN v43) (sC v43)),(25,Vi ((k:Int) + 1))] [.box b18 [.string x.name,Vi x.kind,Vi x.ty,Vi x.src.op,Vi x.src.k,Vi x.src.n,.string x.src.s,.string x.src.nm,.slice Au nu cu],.row (.slice (sA v43) (sN v43) (sC v43)) 9 1 ((strRows (diffN (fs.take k) (va.take k) (vb.take k)))++[[.string x.name]])] [(b27,0,[.string x.name]),(b22,o23 + k * 3,[Vi xb.k,Vi xb.n,.string xb.s]),(b19,o20 + k * 3,[Vi xa.k,Vi xa.n,.string xa.s]),(b15,o16 + k * 9,[.string x.name,Vi x.kind,Vi x.ty,Vi x.src.op,Vi x.src.k,Vi x.src.n,.string x.src.s,.string x.src.nm,.slice Au nu cu])]) (And.intro (by constructor <;> (simp; omega)) (trivial)) (And.intro (i64_wrap (by omega) (by omega)) (trivial)) (fun v43 _=>by kernel_rfl) ?_
   clear hJ a w; intro v43 h30 a w s31 hJ
   replace hJ:=hJ.drop 0
   exact x_round ⟨k + 1,⟨h30,.slice (sA v43) (sN v43) (sC v43),(hJ.tof [] (F':=[]) (by kernel_rfl)).to (by kernel_rfl) (by rw [hsn]; simp [strRows]) rfl,(s2.trans (s26.trans (s29.trans s31))),by omega⟩,by omega⟩
 ·skip
  have t1:fs.take k=fs:=by rw [hke,hn,List.take_length]
  have t2:va.take k=va:=by rw [hke,← la,List.take_length]
  have t3:vb.take k=vb:=by rw [hke,← lb,List.take_length]
  rw [t1,t2,t3] at hJ
  have hrl:(strRows (diffN fs va vb)).length=(diffN fs va vb).length:=List.length_map _
  obtain ⟨Ar,cr,hE_v,hc_v,hm_v⟩:=hJ.form (v:=v) (e:=9) (k:=1) (l:=strRows (diffN fs va vb)) 0 (by kernel_rfl)
  rw [show (strRows (diffN fs va vb)).length=(diffN fs va vb).length from by first | omega | (simp; done) | (simp; omega)] at hE_v hc_v
  rw [hE_v] at hJ
  refine x_false hJ (t:=decide ((k:Int) < (n:Int))) (by kernel_rfl) (decide_eq_false (by omega)) ?_
  refine rk hJ false 2 [] [] (.k (.out (.exit 0)) [] [8] []) trivial trivial (fun _=>by kernel_rfl) ?_
  clear hJ a w; intro a w hJ
  refine x_leave rfl ?_
  refine rk hJ false 10 [] [] (.k (.out .ret) [] [] [(6,.slice Ar ((diffN fs va vb).length) cr),(7,Vi 0)]) trivial trivial (fun _=>by kernel_rfl) ?_
  clear hJ a w; intro a w hJ
  have fr:=hJ.j.rowOut0 (v:=.slice Ar ((diffN fs va vb).length) cr) (e:=9) (k:=1) (l:=strRows (diffN fs va vb)) 0 (by kernel_rfl) rfl
  refine x_end (hQ [.slice Ar ((diffN fs va vb).length) cr,Vi 0] _ [] hJ (.rtmp hJ.j (by kernel_rfl) (.rtmp hJ.j (by kernel_rfl) .nil)) (no_own _) rfl ?_).1
  exact ⟨Ar,cr,rfl,fr⟩

end Go.Proofs.YthckljafinhepaaGreat
