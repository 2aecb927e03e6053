/-
  Contract of the laws' Inputs.
-/
import Derived.Test.YthckljafinhepaaGreatZI36
import Derived.Test.YthckljafinhepaaGreatZI26
import Derived.Test.YthckljafinhepaaGreatZI17
import Derived.Test.YthckljafinhepaaGreatZI41
import Derived.Test.YthckljafinhepaaGreatZI43
import Derived.Test.YthckljafinhepaaGreatZI30
set_option maxRecDepth 100000
namespace Go.Proofs.YthckljafinhepaaGreat
open Go.RowKit
set_option linter.unusedVariables false
def sQ (fs:List Fd) (l:List RawD):Nat→Env × Nat
 | 0=>([],0)
 | k + 1=>((sQ fs l k).1++(match fs[k]? with
   | some f=>if f.kind=1∧0 < cJ (aJ l (sQ fs l k).2).k 4 then [(f.name,valR f.ty (aJ l (sQ fs l k).2))] else []
   | none=>[]),bJ l (sQ fs l k).2)
def inpE (fs:List Fd) (l:List RawD):Env:=(sQ fs l fs.length).1
theorem inpF_le (fs:List Fd) (l:List RawD):∀ k,(sQ fs l k).2≤k∧(sQ fs l k).1.length≤k
 | 0=>⟨Nat.le_refl _,Nat.le_refl _⟩
 | k + 1=>by
  obtain ⟨h1,h2⟩:=inpF_le fs l k
  have h3:=yJ l (sQ fs l k).2
  refine ⟨by show bJ l (sQ fs l k).2≤_; omega,?_⟩
  show ((sQ fs l k).1++_).length≤_
  rw [List.length_append]
  have:(match fs[k]? with
   | some f=>if f.kind=1∧0 < cJ (aJ l (sQ fs l k).2).k 4 then [(f.name,valR f.ty (aJ l (sQ fs l k).2))] else []
   | none=>([]:Env)).length≤1:=by
   split
   ·split <;> simp
   ·simp
  exact Nat.add_le_add h2 this
theorem inpF_yes {fs:List Fd} {l:List RawD} {k:Nat} {f:Fd} (hf:fs[k]?=some f) (h1:f.kind=1) (h2:0 < cJ (aJ l (sQ fs l k).2).k 4):(sQ fs l (k + 1)).1=(sQ fs l k).1++[(f.name,valR f.ty (aJ l (sQ fs l k).2))]:=by
 show (sQ fs l k).1++_=_
 rw [hf]
 simp only
 rw [if_pos ⟨h1,h2⟩]
theorem inpF_no {fs:List Fd} {l:List RawD} {k:Nat} {f:Fd} (hf:fs[k]?=some f) (h:¬ (f.kind=1∧0 < cJ (aJ l (sQ fs l k).2).k 4)):(sQ fs l (k + 1)).1=(sQ fs l k).1:=by
 show (sQ fs l k).1++_=_
 rw [hf]
 simp only
 rw [if_neg h,List.append_nil]
theorem inpF_each {fs:List Fd} {l:List RawD}:∀ k,k≤fs.length→∀ p∈(sQ fs l k).1,∃ i f r,i < k∧fs[i]?=some f∧f.kind=1∧p=(f.name,valR f.ty r)
 | 0,_,p,hp=>by cases hp
 | k + 1,hk,p,hp=>by
  obtain ⟨f,hf⟩:∃ f,fs[k]?=some f:=⟨_,List.getElem?_eq_getElem (by omega)⟩
  by_cases h:f.kind=1∧0 < cJ (aJ l (sQ fs l k).2).k 4
  ·rw [inpF_yes hf h.1 h.2] at hp
   rcases List.mem_append.1 hp with hp | hp
   ·obtain ⟨i,g,r,h1,h2⟩:=inpF_each k (by omega) p hp
    exact ⟨i,g,r,by omega,h2⟩
   ·exact ⟨k,f,_,by omega,hf,h.1,List.mem_singleton.1 hp⟩
  ·rw [inpF_no hf h] at hp
   obtain ⟨i,g,r,h1,h2⟩:=inpF_each k (by omega) p hp
   exact ⟨i,g,r,by omega,h2⟩
theorem inpF_nodup {fs:List Fd} {l:List RawD} (hd:(fs.map (fun f:Fd=>f.name)).Nodup):∀ k,k≤fs.length→((sQ fs l k).1.map (·.1)).Nodup
 | 0,_=>List.nodup_nil
 | k + 1,hk=>by
  obtain ⟨f,hf⟩:∃ f,fs[k]?=some f:=⟨_,List.getElem?_eq_getElem (by omega)⟩
  have ih:=inpF_nodup (l:=l) hd k (by omega)
  by_cases h:f.kind=1∧0 < cJ (aJ l (sQ fs l k).2).k 4
  ·rw [inpF_yes hf h.1 h.2,List.map_append,List.nodup_append]
   refine ⟨ih,by simp,fun a ha b hb e=>?_⟩
   obtain ⟨p,hp,rfl⟩:=List.mem_map.1 ha
   obtain ⟨i,g,r,h1,h2,-,rfl⟩:=inpF_each k (by omega) p hp
   have hb:=List.mem_singleton.1 hb
   simp only at e hb
   have q1:(fs.map (fun f:Fd=>f.name))[i]?=some f.name:=by rw [List.getElem?_map,h2]; simp [e,hb]
   have q2:(fs.map (fun f:Fd=>f.name))[k]?=some f.name:=by rw [List.getElem?_map,hf]; rfl
   have:=(List.getElem?_inj (by rw [List.length_map]; omega) hd).1 (q1.trans q2.symm)
   omega
  ·rw [inpF_no hf h]; exact ih
set_option maxHeartbeats 4000000 in
theorem inputs_any (fs:List Fd) (pv:Value) (fv:Value) (l:List RawD) (sl:Value) (h:Vw) (hf:IsFds h fv fs) (hpv:.slice (sA pv) (sN pv) (sC pv)=pv) (hfl:fs.length≤100) (hty:∀ f∈fs,1≤f.ty∧f.ty≤3) (hl:RS h 4 sl (l.map RawD.cs)) (ll:l.length * 40≤reachBytes) (ol:∀ r∈l,r.ok) :
  CRow Tryz.prog 16 #[.agg #[fv,pv],sl] h 54 7 (fun v rows=>rows=zK (inpE fs l)):=by
 obtain ⟨vs,A,c,rfl,-,-,hr,-,hvl,hsl⟩:=dQ hf
 have hP:=fun n H=>cK n 4 H
 have hV:=fun k r H=>c_value k r H
 have he:inpE fs l=(sQ fs l fs.length).1:=rfl
 rw [he]
 clear he
 obtain ⟨A0,c0,rfl,-,-,-⟩:=hl.form
 rw [List.length_map] at *
 rw [← hpv]
 generalize hL:fs.length=len at *
 refine yX Tryz.func16 (c:=Tryz.f16.body.getD .skip) (N:=43) ?_
 intro hbx hbad Q hQ a w hJ
 refine rx' hJ false 29 [.own,.own,.b 1 0] [] (.new fun b1=>.new fun bg=>.ok (.code [0,1,0,1,1,1]) [.block 0,.seq [1,1,1,1]] [(5,Vp bg),(6,Vz),(14,.slice A len c),(15,Vi (len:Int)),(16,Vi 0)] [.box bg [.slice A0 l.length c0,Vi 0],.box b1 [.slice A len c,.slice (sA pv) (sN pv) (sC pv)]] []) (fun b1 bg _=>by kernel_rfl) ?_
 clear hJ a w; intro b1 bg a w hJ
 replace hJ:=hJ.nilrow 54 7
 refine eY (fun (k:Nat) a w=>∃ (h2:Vw) (v:Value),K ⟨43,h.w,h.bad,[]⟩ [(5,Vp bg),(14,.slice A len c),(15,Vi (len:Int)),(16,Vi (k:Int)),(6,v)] [.row v 54 7 (zK (sQ fs l k).1),.box bg [.slice A0 l.length c0,Vi (((sQ fs l k).2:Nat):Int)],.box b1 [.slice A len c,.slice (sA pv) (sN pv) (sC pv)]] [] h2 a w∧Sees h h2∧(k≤len)) (fun k=>len - k) (0) ⟨h,(Vz),hJ.tw,Sees.refl _,Nat.zero_le _⟩ ?_
 clear hJ a w; rintro k a w ⟨h2,v,hJ,s3,hk⟩
 refine rk' hJ false 6 [] [] (.k (.code [0,1,0,0,1,0,1,1,1]) [.seq [1,1,0,0,1,0,1,1,1]] [5,14,15,16,6] [(17,.bool (decide ((k:Int) < (len:Int))))]) ?_
 clear hJ a w; intro a w hJ
 rcases (by omega:k < len∨k=len) with hlt | hke
 ·obtain ⟨f,hfk⟩:∃ f,fs[k]?=some f:=⟨_,List.getElem?_eq_getElem (by omega)⟩
  obtain ⟨u,huk⟩:∃ u,vs[k]?=some u:=⟨_,List.getElem?_eq_getElem (by omega)⟩
  have hrow:(aQ fs vs)[k]?=some (fdRow f (.slice (sA u) (sN u) (sC u))):=by rw [hsl u (List.mem_of_getElem? huk)]; exact bQ hfk huk
  obtain ⟨t1,t2⟩:=hty f (List.mem_of_getElem? hfk)
  obtain ⟨le1,le2⟩:=inpF_le fs l k
  have rok:=rawAt_ok ol (sQ fs l k).2
  obtain ⟨⟨rk0,rk1⟩,-,-,-⟩:=rawAt_ok ol (sQ fs l k).2
  have hyes := @inpF_yes fs l k f hfk
  have hno := @inpF_no fs l k f hfk
  have h2:(sQ fs l (k + 1)).2=bJ l (sQ fs l k).2:=rfl
  have hvr:∀ r,valR f.ty r=⟨f.ty,rX f.ty r.k r.a,valS f.ty r.t⟩:=fun _=>rfl
  refine kY hJ (t:=decide ((k:Int) < (len:Int))) (decide_eq_true (by omega)) ?_
  refine rk' hJ false 6 [] [] (.k (.ops [0,0,0,1,1,0,0,1,0,1,1,1] 0) [.seq [1,0,0,1,1,0,0,1,0,1,1,1],.block 1,.seq [1,1,1,0,0,1,0,1,1,1]] [5,14,15,16,6] []) ?_
  clear hJ a w; intro a w hJ
  obtain ⟨b4,o5,rfl,-,c6⟩:=RS.row hr (hrow)
  replace hJ:=hJ.fact (c6.sees s3)
  refine rk hJ false 9 [.ix b4 o5 len c k,.f 0 0,.own,.b 0 0] [] (.new fun b7=>.f (.ops [0,1,0,0,1,1,0,0,1,0,1,1,1] 1) [.seq [1,1,0,0,1,1,0,0,1,0,1,1,1],.block 1,.seq [1,1,1,0,0,1,0,1,1,1]] [5,14,15,16,6] [(8,Vp b7),(20,Vp bg)] [.box b7 [.string f.name,Vi f.kind,Vi f.ty,Vi f.src.op,Vi f.src.k,Vi f.src.n,.string f.src.s,.string f.src.nm,.slice (sA u) (sN u) (sC u)],.row v 54 7 (zK (sQ fs l k).1),.box bg [.slice A0 l.length c0,Vi (((sQ fs l k).2:Nat):Int)],.box b1 [.slice (some ⟨b4,o5,none⟩) len c,.slice (sA pv) (sN pv) (sC pv)]] [.o 0]) (And.intro (by first | omega | (simp; omega)) (trivial)) trivial (fun b7 _=>by kernel_rfl) ?_
  clear hJ a w; intro b7 a w hJ
  refine xX hJ 21 2 (qQ bg l (.slice A0 l.length c0) (sQ fs l k).2 _ (hl.sees (s3.trans hJ.j.sees)) (by omega) ll) ?_; clear hJ a w; rintro _ _ h8 a w s9 ⟨rfl,rfl⟩ hJ
  refine rk' hJ false 10 [.own,.b 0 0,.b 1 1] [] (.new fun b10=>.f (.ops [0,1,1,0,0,1,1,0,0,1,0,1,1,1] 4) [.seq [1,1,1,0,0,1,1,0,0,1,0,1,1,1],.block 1,.seq [1,1,1,0,0,1,0,1,1,1]] [5,14,15,16,6,8] [(9,Vp b10),(25,.bool (f.kind == 1))] [.box b10 [Vi ((aJ l (sQ fs l k).2).k),Vi ((aJ l (sQ fs l k).2).a),Vi ((aJ l (sQ fs l k).2).b),.string ((aJ l (sQ fs l k).2).t)],.box b7 [.string f.name,Vi f.kind,Vi f.ty,Vi f.src.op,Vi f.src.k,Vi f.src.n,.string f.src.s,.string f.src.nm,.slice (sA u) (sN u) (sC u)],.row v 54 7 (zK (sQ fs l k).1),.box bg [.slice A0 l.length c0,Vi ((bJ l (sQ fs l k).2:Nat):Int)],.box b1 [.slice (some ⟨b4,o5,none⟩) len c,.slice (sA pv) (sN pv) (sC pv)]] [.o 0]) (hr:=fun b10 _=>by kernel_rfl) ?_
  clear hJ a w; intro b10 a w hJ
  by_cases h1:f.kind=1
  ·replace hJ:=hJ.rew 25 (v:=.bool (f.kind == 1)) (v':=.bool true) (congrArg Value.bool (beq_iff_eq.2 h1)) (by kernel_rfl)
   replace hJ:K ⟨43,h.w,h.bad,[]⟩ [(5,Vp bg),(14,.slice (some ⟨b4,o5,none⟩) len c),(15,Vi (len:Int)),(16,Vi (k:Int)),(6,v),(8,Vp b7),(9,Vp b10),(25,.bool true)] [.box b10 [Vi ((aJ l (sQ fs l k).2).k),Vi ((aJ l (sQ fs l k).2).a),Vi ((aJ l (sQ fs l k).2).b),.string ((aJ l (sQ fs l k).2).t)],.box b7 [.string f.name,Vi f.kind,Vi f.ty,Vi f.src.op,Vi f.src.k,Vi f.src.n,.string f.src.s,.string f.src.nm,.slice (sA u) (sN u) (sC u)],.row v 54 7 (zK (sQ fs l k).1),.box bg [.slice A0 l.length c0,Vi ((bJ l (sQ fs l k).2:Nat):Int)],.box b1 [.slice (some ⟨b4,o5,none⟩) len c,.slice (sA pv) (sN pv) (sC pv)]] [(b4,o5 + k * 9,[.string f.name,Vi f.kind,Vi f.ty,Vi f.src.op,Vi f.src.k,Vi f.src.n,.string f.src.s,.string f.src.nm,.slice (sA u) (sN u) (sC u)])] h8 a w:=hJ.to (by kernel_rfl) rfl rfl
   refine rk' hJ false 7 [.b 0 0,.cl 24 #[Vi ((aJ l (sQ fs l k).2).k),Vi 4] (Vi (cJ (aJ l (sQ fs l k).2).k 4))] [] (.k (.code [1,1,1,0,0,1,1,0,0,1,0,1,1,1]) [.block 1,.seq [1,1,1,0,0,1,0,1,1,1]] [5,14,15,16,6,8,9] [(30,.bool (decide ((cJ (aJ l (sQ fs l k).2).k 4) > 0)))]) (ho:=And.intro (fun H sH=>hP _ _ rk0 rk1 (by omega) (by omega)) (trivial)) ?_
   clear hJ a w; intro a w hJ
   by_cases hq:0 < cJ (aJ l (sQ fs l k).2).k 4
   ·skip
    refine kY hJ (t:=decide ((cJ (aJ l (sQ fs l k).2).k 4) > 0)) (decide_eq_true hq) ?_
    let R:Reg:=⟨⟨43,h.w,h.bad,[]⟩,[(0,31,fun gh=>v),(1,32,fun gh=>Vp b7),(2,33,fun gh=>.string f.name),(3,34,fun gh=>.pointer (some ⟨b7,2,none⟩)),(4,35,fun gh=>Vi f.ty),(5,36,fun gh=>.agg #[Vi ((aJ l (sQ fs l k).2).k),Vi ((aJ l (sQ fs l k).2).a),Vi ((aJ l (sQ fs l k).2).b),.string ((aJ l (sQ fs l k).2).t)]),(6,37,fun gh=>.agg #[Vi f.ty,Vi (rX f.ty (aJ l (sQ fs l k).2).k (aJ l (sQ fs l k).2).a),.string (valS f.ty (aJ l (sQ fs l k).2).t)]),(7,38,fun gh=>.agg #[.string f.name,Vi 0,Vi 0,Ve,Vi f.ty,Vi (rX f.ty (aJ l (sQ fs l k).2).k (aJ l (sQ fs l k).2).a),.string (valS f.ty (aJ l (sQ fs l k).2).t)]),(8,39,fun gh=>.slice (some ⟨(zJ (gh 8)),0,none⟩) 1 1),(9,40,fun gh=>.slice (sA (gh 9)) (sN (gh 9)) (sC (gh 9))),(10,6,fun gh=>.slice (sA (gh 9)) (sN (gh 9)) (sC (gh 9)))],[(5,Vp bg),(14,.slice (some ⟨b4,o5,none⟩) len c),(15,Vi (len:Int)),(16,Vi (k:Int)),(6,v),(8,Vp b7),(9,Vp b10),(30,.bool (decide ((cJ (aJ l (sQ fs l k).2).k 4) > 0)))],[⟨some (.box b10 [Vi ((aJ l (sQ fs l k).2).k),Vi ((aJ l (sQ fs l k).2).a),Vi ((aJ l (sQ fs l k).2).b),.string ((aJ l (sQ fs l k).2).t)]),[]⟩,⟨some (.box b7 [.string f.name,Vi f.kind,Vi f.ty,Vi f.src.op,Vi f.src.k,Vi f.src.n,.string f.src.s,.string f.src.nm,.slice (sA u) (sN u) (sC u)]),[]⟩,⟨some (.row v 54 7 (zK (sQ fs l k).1)),[(9,fun gh=>.row (.slice (sA (gh 9)) (sN (gh 9)) (sC (gh 9))) 54 7 ((zK (sQ fs l k).1)++[[.string f.name,Vi 0,Vi 0,Ve,Vi f.ty,Vi (rX f.ty (aJ l (sQ fs l k).2).k (aJ l (sQ fs l k).2).a),.string (valS f.ty (aJ l (sQ fs l k).2).t)]]))]⟩,⟨some (.box bg [.slice A0 l.length c0,Vi ((bJ l (sQ fs l k).2:Nat):Int)]),[]⟩,⟨some (.box b1 [.slice (some ⟨b4,o5,none⟩) len c,.slice (sA pv) (sN pv) (sC pv)]),[]⟩],[(8,fun gh hh=>Cells hh (zJ (gh 8)) 0 [.string f.name,Vi 0,Vi 0,Ve,Vi f.ty,Vi (rX f.ty (aJ l (sQ fs l k).2).k (aJ l (sQ fs l k).2).a),.string (valS f.ty (aJ l (sQ fs l k).2).t)])],[[],[],[1],[],[3],[],[3,4,5],[1,2,3,4,5,6],[1,2,3,4,5,6,7],[0,1,2,3,4,5,6,7,8],[0,1,2,3,4,5,6,7,8,9]],h8⟩
    have hmono:∀ zq∈R.F,∀ zx zh zi,Sees zh zi→zq.2 zx zh→zq.2 zx zi:=eV (fun _ _ _ s c=>c.sees s) (lJ)
    refine iY (by kernel_rfl) R hJ 11 [.pu,.pu,.ld 1 0,.pu,.ld 1 2,.ld 0 0,.cl,.pu,.cl,.cl,.pu] (by kernel_rfl) hmono (fun _ _ _=>by kernel_rfl) (fun hT hA=>?_) ?_
    ·clear hJ
     refine And.intro (oW hT hA hmono 37 (fun gh=>.agg #[Vi f.ty,Vi (rX f.ty (aJ l (sQ fs l k).2).k (aJ l (sQ fs l k).2).a),.string (valS f.ty (aJ l (sQ fs l k).2).t)]) [4,5] 6 34 (fun gh=>#[Vi f.ty,.agg #[Vi ((aJ l (sQ fs l k).2).k),Vi ((aJ l (sQ fs l k).2).a),Vi ((aJ l (sQ fs l k).2).b),.string ((aJ l (sQ fs l k).2).t)]]) (fun gh H sH fH lent=>hV f.ty _ _ t1 t2 rok)) ?_
     refine And.intro (r_fact hT hA hmono ⟨fun _ _=>by kernel_rfl,fun _ _=>by kernel_rfl,fun _ _=>by kernel_rfl⟩ 39 (fun g=>Vs g 1 1) [7] 8 (by kernel_rfl) (by kernel_rfl) (fun _=>by kernel_rfl) (fun gh=>[.string f.name,Vi 0,Vi 0,Ve,Vi f.ty,Vi (rX f.ty (aJ l (sQ fs l k).2).k (aJ l (sQ fs l k).2).a),.string (valS f.ty (aJ l (sQ fs l k).2).t)]) 54 (fun _ _=>by kernel_rfl) (fun gh zb zH zc zj zq zhq zhe=>own_fact (i:=8) (k:=0) (f:=fun gh hh=>Cells hh (zJ (gh 8)) 0 [.string f.name,Vi 0,Vi 0,Ve,Vi f.ty,Vi (rX f.ty (aJ l (sQ fs l k).2).k (aJ l (sQ fs l k).2).a),.string (valS f.ty (aJ l (sQ fs l k).2).t)]) (by kernel_rfl) (by kernel_rfl) zc zj zq zhq zhe)) ?_
     refine And.intro (nW hT hA hmono ⟨fun _ _=>by kernel_rfl,fun _ _=>by kernel_rfl,fun _ _=>by kernel_rfl⟩ 40 [0,6,8] 9 2 ⟨some (.row v 54 7 (zK (sQ fs l k).1)),[(9,fun gh=>.row (.slice (sA (gh 9)) (sN (gh 9)) (sC (gh 9))) 54 7 ((zK (sQ fs l k).1)++[[.string f.name,Vi 0,Vi 0,Ve,Vi f.ty,Vi (rX f.ty (aJ l (sQ fs l k).2).k (aJ l (sQ fs l k).2).a),.string (valS f.ty (aJ l (sQ fs l k).2).t)]]))]⟩ (fun gh=>v) 28 54 7 (fun gh=>zK (sQ fs l k).1) (fun gh=>[[.string f.name,Vi 0,Vi 0,Ve,Vi f.ty,Vi (rX f.ty (aJ l (sQ fs l k).2).k (aJ l (sQ fs l k).2).a),.string (valS f.ty (aJ l (sQ fs l k).2).t)]]) (.tmp 31) (.tmp 39) (fun gh=>(zJ (gh 8))) 1 1 0 8 (fun gh hh=>Cells hh (zJ (gh 8)) 0 [.string f.name,Vi 0,Vi 0,Ve,Vi f.ty,Vi (rX f.ty (aJ l (sQ fs l k).2).k (aJ l (sQ fs l k).2).a),.string (valS f.ty (aJ l (sQ fs l k).2).t)]) (fun _ _ c=>c) Tryz.underlying28 (zv:=.agg #[Ve,Vi 0,Vi 0,Ve,Vi 0,Vi 0,Ve]) (bytes:=80) (fun _=>by constructor <;> (simp; omega))) ?_
     trivial
    clear hJ a w; intro gh h13 a w sR hJ1 hF; have s14:Sees h8 h13:=sR; clear sR
    have hJ:K ⟨43,h.w,h.bad,[]⟩ [(5,Vp bg),(14,.slice (some ⟨b4,o5,none⟩) len c),(15,Vi (len:Int)),(16,Vi (k:Int)),(6,.slice (sA (gh 9)) (sN (gh 9)) (sC (gh 9)))] [.box b10 [Vi ((aJ l (sQ fs l k).2).k),Vi ((aJ l (sQ fs l k).2).a),Vi ((aJ l (sQ fs l k).2).b),.string ((aJ l (sQ fs l k).2).t)],.box b7 [.string f.name,Vi f.kind,Vi f.ty,Vi f.src.op,Vi f.src.k,Vi f.src.n,.string f.src.s,.string f.src.nm,.slice (sA u) (sN u) (sC u)],.row (.slice (sA (gh 9)) (sN (gh 9)) (sC (gh 9))) 54 7 ((zK (sQ fs l k).1)++[[.string f.name,Vi 0,Vi 0,Ve,Vi f.ty,Vi (rX f.ty (aJ l (sQ fs l k).2).k (aJ l (sQ fs l k).2).a),.string (valS f.ty (aJ l (sQ fs l k).2).t)]]),.box bg [.slice A0 l.length c0,Vi ((bJ l (sQ fs l k).2:Nat):Int)],.box b1 [.slice (some ⟨b4,o5,none⟩) len c,.slice (sA pv) (sN pv) (sC pv)]] [(b4,o5 + k * 9,[.string f.name,Vi f.kind,Vi f.ty,Vi f.src.op,Vi f.src.k,Vi f.src.n,.string f.src.s,.string f.src.nm,.slice (sA u) (sN u) (sC u)])] h13 a w:=hJ1.tw
    have f11:Cells h13 (zJ (gh 8)) 0 [.string f.name,Vi 0,Vi 0,Ve,Vi f.ty,Vi (rX f.ty (aJ l (sQ fs l k).2).k (aJ l (sQ fs l k).2).a),.string (valS f.ty (aJ l (sQ fs l k).2).t)]:=Reg.fact (i:=8) (f:=fun gh hh=>Cells hh (zJ (gh 8)) 0 [.string f.name,Vi 0,Vi 0,Ve,Vi f.ty,Vi (rX f.ty (aJ l (sQ fs l k).2).k (aJ l (sQ fs l k).2).a),.string (valS f.ty (aJ l (sQ fs l k).2).t)]) hF 0 (by kernel_rfl)
    replace hJ:=hJ.fact f11
    clear hJ1 hF hmono R
    generalize zJ (gh 8)=b12 at *
    generalize gh 9=v40 at *
    clear gh
    refine rk' hJ false 6 [] [(41,Vi (IntKind.i64.wrap ((k:Int) + 1)),Vi ((k:Int) + 1))] (.k (.out .normal) [] [5,14,15,6] [(16,Vi ((k:Int) + 1))]) (hc:=And.intro (kJ (by omega) (by omega)) (trivial)) ?_
    clear hJ a w; intro a w hJ
    replace hJ:=hJ.drop 1
    replace hJ:=hJ.drop 0
    exact jY ⟨k + 1,⟨h13,.slice (sA v40) (sN v40) (sC v40),(hJ.tof [] (F':=[]) (by kernel_rfl)).to (by kernel_rfl) (by rw [hyes h1 hq,fcRows_snoc,h2]; rfl) rfl,(s3.trans (s9.trans s14)),by omega⟩,by omega⟩
   ·skip
    refine aY hJ (t:=decide ((cJ (aJ l (sQ fs l k).2).k 4) > 0)) (decide_eq_false hq) ?_
    refine rk' hJ false 7 [] [(41,Vi (IntKind.i64.wrap ((k:Int) + 1)),Vi ((k:Int) + 1))] (.k (.out .normal) [] [5,14,15,6] [(16,Vi ((k:Int) + 1))]) (hc:=And.intro (kJ (by omega) (by omega)) (trivial)) ?_
    clear hJ a w; intro a w hJ
    replace hJ:=hJ.drop 1
    replace hJ:=hJ.drop 0
    exact jY ⟨k + 1,⟨h8,v,(hJ.tof [] (F':=[]) (by kernel_rfl)).to (by kernel_rfl) (by rw [hno (fun q=>hq q.2),h2]; rfl) rfl,(s3.trans s9),by omega⟩,by omega⟩
  ·skip
   replace hJ:=hJ.rew 25 (v:=.bool (f.kind == 1)) (v':=.bool false) (congrArg Value.bool (beq_eq_false_iff_ne.2 h1)) (by kernel_rfl)
   replace hJ:K ⟨43,h.w,h.bad,[]⟩ [(5,Vp bg),(14,.slice (some ⟨b4,o5,none⟩) len c),(15,Vi (len:Int)),(16,Vi (k:Int)),(6,v),(8,Vp b7),(9,Vp b10),(25,.bool false)] [.box b10 [Vi ((aJ l (sQ fs l k).2).k),Vi ((aJ l (sQ fs l k).2).a),Vi ((aJ l (sQ fs l k).2).b),.string ((aJ l (sQ fs l k).2).t)],.box b7 [.string f.name,Vi f.kind,Vi f.ty,Vi f.src.op,Vi f.src.k,Vi f.src.n,.string f.src.s,.string f.src.nm,.slice (sA u) (sN u) (sC u)],.row v 54 7 (zK (sQ fs l k).1),.box bg [.slice A0 l.length c0,Vi ((bJ l (sQ fs l k).2:Nat):Int)],.box b1 [.slice (some ⟨b4,o5,none⟩) len c,.slice (sA pv) (sN pv) (sC pv)]] [(b4,o5 + k * 9,[.string f.name,Vi f.kind,Vi f.ty,Vi f.src.op,Vi f.src.k,Vi f.src.n,.string f.src.s,.string f.src.nm,.slice (sA u) (sN u) (sC u)])] h8 a w:=hJ.to (by kernel_rfl) rfl rfl
   refine rk' hJ false 15 [] [(41,Vi (IntKind.i64.wrap ((k:Int) + 1)),Vi ((k:Int) + 1))] (.k (.out .normal) [] [5,14,15,6] [(16,Vi ((k:Int) + 1))]) (hc:=And.intro (kJ (by omega) (by omega)) (trivial)) ?_
   clear hJ a w; intro a w hJ
   replace hJ:=hJ.drop 1
   replace hJ:=hJ.drop 0
   exact jY ⟨k + 1,⟨h8,v,(hJ.tof [] (F':=[]) (by kernel_rfl)).to (by kernel_rfl) (by rw [hno (fun q=>h1 q.1),h2]; rfl) rfl,(s3.trans s9),by omega⟩,by omega⟩
 ·skip
  refine aY hJ (t:=decide ((k:Int) < (len:Int))) (decide_eq_false (by omega)) ?_
  refine rx' hJ false 2 [] [] (.ok (.out (.exit 0)) [] [(6,v)] [.row v 54 7 (zK (sQ fs l k).1),.box bg [.slice A0 l.length c0,Vi (((sQ fs l k).2:Nat):Int)],.box b1 [.slice A len c,.slice (sA pv) (sN pv) (sC pv)]] []) (fun _=>by kernel_rfl) ?_
  clear hJ a w; intro a w hJ
  refine dY rfl ?_
  refine rk' hJ false 9 [] [] (.k (.out .ret) [] [] [(4,v)]) ?_
  clear hJ a w; intro a w hJ
  have hown:=hJ.rowOwn (v:=v) (e:=54) (kk:=7) (l:=zK (sQ fs l k).1) 0 (by kernel_rfl)
  refine zX (hQ [v] _ [] hJ (.rtm hJ.j .nil) (fJ _) rfl ?_).1
  exact ⟨_,hown,by rw [hke]⟩
end Go.Proofs.YthckljafinhepaaGreat
namespace Go.Proofs.YthckljafinhepaaGreat
open Go.RowKit
set_option linter.unusedVariables false
def vK (fs:List Fd):Env→Env→Int
 | _,[]=>0
 | pre,p :: rest=>if toldE fs p.1 p.2.k=0 then (if pre.any (fun q=>q.1.toList == p.1.toList) then 6 else vK fs (pre++[p]) rest) else toldE fs p.1 p.2.k
theorem facts1_any (p:ByteArray × Vl) (b:Nat) (x:ByteArray × Vl) (h:Vw) (hc:Cells h b 0 (fcRow x)):C0 Tryz.prog 115 #[.agg #[.string p.1,.int .i64 0,.int .i64 0,.string ⟨#[]⟩,.int .i64 p.2.k,.int .i64 p.2.n,.string p.2.s],.pointer (some ⟨b,0,none⟩)] h (fun r _=>r=.bool (p.1.toList == x.1.toList)):=by
 refine yX Tryz.func115 (c:=Tryz.f115.body.getD .skip) (N:=9) ?_
 intro hbx hbad Q hQ a w hJ
 replace hJ:K ⟨9,h.w,h.bad,[]⟩ [(0,.agg #[.string p.1,Vi 0,Vi 0,Ve,Vi p.2.k,Vi p.2.n,.string p.2.s]),(1,Vp b)] [] [] h a w:=hJ.tw
 replace hJ:=hJ.fact (hc.sees (Sees.refl _))
 refine rk' hJ false 17 [.own,.b 0 0,.f 0 0] [] (.new fun b1=>.f (.out .ret) [] [] [(3,.bool (p.1.toList == x.1.toList))] [.box b1 [.string p.1,Vi 0,Vi 0,Ve,Vi p.2.k,Vi p.2.n,.string p.2.s]] [.o 0]) (hr:=fun b1 _=>by kernel_rfl) ?_
 clear hJ a w; intro b1 a w hJ
 refine zX (hQ [.bool (p.1.toList == x.1.toList)] _ [] hJ (.rtm hJ.j .nil) (fJ _) rfl ?_).1
 exact rfl
theorem idxFc_any (l:Env) (A:Option Addr) (cap:Nat) (b:Nat) (x:ByteArray × Vl) (h:Vw) (hr:RS h 7 (.slice A l.length cap) (zK l)) (hl:l.length≤1000000) (hc:Cells h b 0 (fcRow x)) :
  C0 Tryz.prog 68 #[.slice A l.length cap,.func (.func 115) #[] #[.pointer (some ⟨b,0,none⟩)]] h (fun r _=>r=.int .i64 (fidx (fun q:ByteArray × Vl=>q.1.toList == x.1.toList) l)):=by
 generalize hL:l.length=len at *
 refine yX Tryz.func68 (c:=Tryz.f68.body.getD .skip) (N:=19) ?_
 intro hbx hbad Q hQ a w hJ
 refine rk' hJ false 14 [] [] (.k (.code [0,1,0,1]) [.block 0,.seq [1,1]] [0,1] [(7,Vi (len:Int)),(8,Vi 0)]) ?_
 clear hJ a w; intro a w hJ
 refine eY (fun (k:Nat) a w=>∃ (h1:Vw) ,K ⟨19,h.w,h.bad,[]⟩ [(0,.slice A len cap),(1,.func (.func 115) #[] #[Vp b]),(7,Vi (len:Int)),(8,Vi (k:Int))] [] [] h1 a w∧Sees h h1∧(k≤len)∧(∀ y∈l.take k,(y.1.toList == x.1.toList)=false)) (fun k=>len - k) (0) ⟨h,hJ.tw,Sees.refl _,Nat.zero_le _,fun y hy=>by simp at hy⟩ ?_
 clear hJ a w; rintro k a w ⟨h1,hJ,s2,hk,hn⟩
 refine rk' hJ false 6 [] [] (.k (.code [0,1,0,0,1,0,1]) [.seq [1,1,0,0,1,0,1]] [0,1,7,8] [(9,.bool (decide ((k:Int) < (len:Int))))]) ?_
 clear hJ a w; intro a w hJ
 rcases (by omega:k < len∨k=len) with hlt | hke
 ·obtain ⟨f,hfk⟩:∃ f,l[k]?=some f:=⟨_,List.getElem?_eq_getElem (by omega)⟩
  have hrow:(zK l)[k]?=some (fcRow f):=by rw [List.getElem?_map,hfk]; rfl
  refine kY hJ (t:=decide ((k:Int) < (len:Int))) (decide_eq_true (by omega)) ?_
  refine rk' hJ false 15 [] [] (.k (.ops [0,1,0,0,1,1,0,0,1,0,1] 3) [.seq [1,1,0,0,1,1,0,0,1,0,1],.block 1,.seq [1,1,1,0,0,1,0,1]] [0,1,7,8] [(5,Vi (k:Int)),(11,.func (.func 115) #[] #[Vp b]),(12,.slice A len cap),(13,Vi (k:Int))]) ?_
  clear hJ a w; intro a w hJ
  obtain ⟨b3,o4,rfl,-,c5⟩:=RS.row hr (hrow)
  replace hJ:=hJ.fact (c5.sees s2)
  refine rk' hJ false 5 [.ix b3 o4 len cap k,.f 0 0,.cl 115 #[.agg #[.string f.1,Vi 0,Vi 0,Ve,Vi f.2.k,Vi f.2.n,.string f.2.s],Vp b] (.bool (f.1.toList == x.1.toList))] [] (.k (.code [1,1,0,0,1,1,0,0,1,0,1]) [.block 1,.seq [1,1,1,0,0,1,0,1]] [0,1,7,8,5] [(16,.bool (f.1.toList == x.1.toList))]) (ho:=And.intro (by first | omega | (simp; omega)) (And.intro (fun H sH=>facts1_any f b x _ (hc.sees (s2.trans sH))) (trivial))) ?_
  clear hJ a w; intro a w hJ
  cases hq:f.1.toList == x.1.toList with
  | true =>
   refine kY hJ (t:=f.1.toList == x.1.toList) (hq) ?_
   refine rk' hJ false 9 [] [] (.k (.out .ret) [] [] [(4,Vi (k:Int))]) ?_
   clear hJ a w; intro a w hJ
   refine dY rfl ?_
   refine rk' hJ false 2 [] [] (.k (.out .ret) [] [4] []) ?_
   clear hJ a w; intro a w hJ
   refine zX (hQ [Vi (k:Int)] _ [] hJ (.rtm hJ.j .nil) (fJ _) rfl ?_).1
   exact congrArg (Value.int .i64) (eQ _ l k f hn hfk hq).symm
  | false =>
   refine aY hJ (t:=f.1.toList == x.1.toList) (hq) ?_
   refine rk' hJ false 7 [] [(18,Vi (IntKind.i64.wrap ((k:Int) + 1)),Vi ((k:Int) + 1))] (.k (.out .normal) [] [0,1,7] [(8,Vi ((k:Int) + 1))]) (hc:=And.intro (kJ (by omega) (by omega)) (trivial)) ?_
   clear hJ a w; intro a w hJ
   exact jY ⟨k + 1,⟨h1,(hJ.tof [] (F':=[]) (by kernel_rfl)).to (by kernel_rfl) (by kernel_rfl) rfl,s2,by omega,(by rw [pX l k f hfk]; exact fun y hy=>(List.mem_append.1 hy).elim (hn y) (fun e=>by rw [List.mem_singleton.1 e]; exact hq))⟩,by omega⟩
 ·skip
  have htk:l.take k=l:=by rw [hke,← hL,List.take_length]
  rw [htk] at hn
  refine aY hJ (t:=decide ((k:Int) < (len:Int))) (decide_eq_false (by omega)) ?_
  refine rx' hJ false 2 [] [] (.ok (.out (.exit 0)) [] [] [] []) (fun _=>by kernel_rfl) ?_
  clear hJ a w; intro a w hJ
  refine dY rfl ?_
  refine rx' hJ false 8 [] [] (.ok (.out .ret) [] [(4,Vi (-1))] [] []) (fun _=>by kernel_rfl) ?_
  clear hJ a w; intro a w hJ
  refine zX (hQ [Vi (-1)] _ [] hJ (.rtm hJ.j .nil) (fJ _) rfl ?_).1
  exact congrArg (Value.int .i64) (fidx_none _ l hn).symm
theorem contFc_any (l:Env) (A:Option Addr) (cap:Nat) (b:Nat) (x:ByteArray × Vl) (h:Vw) (hr:RS h 7 (.slice A l.length cap) (zK l)) (hl:l.length≤1000000) (hc:Cells h b 0 (fcRow x)) :
  C0 Tryz.prog 58 #[.slice A l.length cap,.func (.func 115) #[] #[.pointer (some ⟨b,0,none⟩)]] h (fun r _=>r=.bool (l.any (fun q=>q.1.toList == x.1.toList))):=by
 have hi:=fun H q1 q2=>idxFc_any l A cap b x H q1 hl q2
 have e:=fidx_dec (fun q:ByteArray × Vl=>q.1.toList == x.1.toList) l
 generalize fidx (fun q:ByteArray × Vl=>q.1.toList == x.1.toList) l=p at *
 refine yX Tryz.func58 (c:=Tryz.f58.body.getD .skip) (N:=9) ?_
 intro hbx hbad Q hQ a w hJ
 refine rx' hJ false 15 [.cl 68 #[.slice A l.length cap,.func (.func 115) #[] #[Vp b]] (Vi p)] [] (.ok (.out .ret) [] [(4,.bool (decide (p ≥ 0)))] [] []) (ho:=And.intro (fun H sH=>hi _ (hr.sees sH) (hc.sees sH)) (trivial)) (fun _=>by kernel_rfl) ?_
 clear hJ a w; intro a w hJ
 refine zX (hQ [.bool (decide (p ≥ 0))] _ [] hJ (.rtm hJ.j .nil) (fJ _) rfl ?_).1
 exact congrArg Value.bool e
set_option maxHeartbeats 4000000 in
theorem facts_v (fs:List Fd) (fv pv:Value) (l:Env) (sl:Value) (h:Vw) (hf:IsFds h fv fs) (hpv:.slice (sA pv) (sN pv) (sC pv)=pv) (hfl:fs.length≤1000000) (hl:RS h 7 sl (zK l)) (hll:l.length≤1000000) (hk:∀ p∈l,p.2.known) :
  C0 Tryz.prog 90 #[.agg #[fv,pv],sl] h (fun r _=>r=.int .i64 (vK fs [] l)):=by
 obtain ⟨vs,A,c,rfl,-,-,hr,-,hvl,hsl⟩:=dQ hf
 obtain ⟨A0,c0,rfl,hc1,-,-⟩:=hl.form
 rw [List.length_map] at *
 rw [← hpv]
 have hT:=fun H s k n t q1 q2=>told_any fs (.slice A fs.length c) s k n t H q1 hfl q2
 generalize hL:l.length=len at *
 refine yX Tryz.func90 (c:=Tryz.f90.body.getD .skip) (N:=35) ?_
 intro hbx hbad Q hQ a w hJ
 refine rk' hJ false 15 [.own] [] (.new fun b1=>.m (.code [0,1,0,1]) [.block 0,.seq [1,1]] [1] [(2,Vp b1),(8,.slice A0 len c0),(9,Vi (len:Int)),(10,Vi 0)] [.box b1 [.slice A fs.length c,.slice (sA pv) (sN pv) (sC pv)]] []) (hr:=fun b1 _=>by kernel_rfl) ?_
 clear hJ a w; intro b1 a w hJ
 refine eY (fun (k:Nat) a w=>∃ (h2:Vw) ,K ⟨35,h.w,h.bad,[]⟩ [(1,.slice A0 len c0),(2,Vp b1),(8,.slice A0 len c0),(9,Vi (len:Int)),(10,Vi (k:Int))] [.box b1 [.slice A fs.length c,.slice (sA pv) (sN pv) (sC pv)]] [] h2 a w∧Sees h h2∧(k≤len)∧(vK fs (l.take k) (l.drop k)=vK fs [] l)) (fun k=>len - k) (0) ⟨h,hJ.tw,Sees.refl _,Nat.zero_le _,rfl⟩ ?_
 clear hJ a w; rintro k a w ⟨h2,hJ,s3,hkl,hv⟩
 refine rk' hJ false 6 [] [] (.k (.code [0,1,0,0,1,0,1]) [.seq [1,1,0,0,1,0,1]] [1,2,8,9,10] [(11,.bool (decide ((k:Int) < (len:Int))))]) ?_
 clear hJ a w; intro a w hJ
 rcases (by omega:k < len∨k=len) with hlt | hke
 ·obtain ⟨x,hxk⟩:∃ x,l[k]?=some x:=⟨_,List.getElem?_eq_getElem (by omega)⟩
  have hrow:(zK l)[k]?=some (fcRow x):=by rw [List.getElem?_map,hxk]; rfl
  have hxn:=hk x (List.mem_of_getElem? hxk)
  have hdr:l.drop k=x :: l.drop (k + 1):=by
   obtain ⟨h1,h2⟩:=List.getElem?_eq_some_iff.1 hxk
   rw [List.drop_eq_getElem_cons h1,h2]
  have htk:=pX l k x hxk
  rw [hdr] at hv
  have hv1:vK fs (l.take k) (x :: l.drop (k + 1))=if toldE fs x.1 x.2.k=0 then (if (l.take k).any (fun q=>q.1.toList == x.1.toList) then 6 else vK fs (l.take k++[x]) (l.drop (k + 1))) else toldE fs x.1 x.2.k:=rfl
  rw [hv1] at hv
  have htl:(l.take k).length=k:=by rw [List.length_take]; omega
  have htr:RS h 7 (.slice A0 k c0) (zK (l.take k)):=by have:=hl.take k (by rw [List.length_map]; omega); rwa [← List.map_take] at this
  have hC:=fun H b q1 q2=>contFc_any (l.take k) A0 c0 b x H q1 (by omega) q2
  rw [htl] at hC
  have hTx:=fun H q=>hT H x.1 x.2.k x.2.n x.2.s q hxn
  generalize toldE fs x.1 x.2.k=z at *
  generalize hany:(l.take k).any (fun q=>q.1.toList == x.1.toList)=y at *
  refine kY hJ (t:=decide ((k:Int) < (len:Int))) (decide_eq_true (by omega)) ?_
  refine rk' hJ false 7 [] [] (.k (.ops [0,0,0,1,1,0,0,1,0,1] 1) [.seq [1,0,0,1,1,0,0,1,0,1],.block 1,.seq [1,1,1,0,0,1,0,1]] [1,2,8,9,10] [(12,Vi (k:Int))]) ?_
  clear hJ a w; intro a w hJ
  obtain ⟨b4,o5,rfl,-,c6⟩:=RS.row hl (hrow)
  replace hJ:=hJ.fact (c6.sees s3)
  refine rk hJ false 26 [.ix b4 o5 len c0 k,.f 0 0,.own,.b 0 0,.b 1 0,.b 0 0,.b 0 4,.cl 114 #[.slice A fs.length c,.string x.1,.agg #[Vi x.2.k,Vi x.2.n,.string x.2.s]] (Vi z)] [] (.new fun bx=>.f (.code [1,1,0,1,0,0,1,1,0,0,1,0,1]) [.seq [1,1,0,0,1,1,0,0,1,0,1],.block 1,.seq [1,1,1,0,0,1,0,1]] [1,2,8,9,10] [(6,Vp bx),(5,Vi (k:Int)),(7,Vi z),(23,.bool (z != 0))] [.box bx [.string x.1,Vi 0,Vi 0,Ve,Vi x.2.k,Vi x.2.n,.string x.2.s],.box b1 [.slice A fs.length c,.slice (sA pv) (sN pv) (sC pv)]] [.o 0]) (And.intro (by first | omega | (simp; omega)) (And.intro (fun H sH=>hTx _ (hf.sees (s3.trans sH))) (trivial))) trivial (fun bx _=>by kernel_rfl) ?_
  clear hJ a w; intro bx a w hJ
  by_cases h1:z=0
  ·rw [if_pos h1] at hv
   refine aY hJ (t:=z != 0) ((by rw [bne_eq_false_iff_eq]; exact h1)) ?_
   refine rk' hJ false 18 [.b 0 1] [] (.k (.ops [0,1,1,1,0,0,1,1,0,0,1,0,1] 2) [.seq [1,1,1,1,0,0,1,1,0,0,1,0,1],.block 1,.seq [1,1,1,0,0,1,0,1]] [1,2,8,9,10,6] [(29,.slice (some ⟨b4,o5,none⟩) len c0),(30,Vi (k:Int))]) ?_
   clear hJ a w; intro a w hJ
   refine x_pure hJ 31 (.slice (some ⟨b4,o5,none⟩) k c0) (by kernel_rfl) (fun w=>run_hi (t:=28) (e:=54) (x:=(.tmp 29)) (y:=(.tmp 30)) (A:=(some ⟨b4,o5,none⟩)) (n:=len) (cap:=c0) (k:=k) (kk:=7) (by kernel_rfl) (by kernel_rfl) (by kernel_rfl) (by omega) Tryz.underlying28 (by kernel_rfl)) ?_; clear hJ a w; intro a w hJ
   refine rk' hJ false 1 [] [] (.k (.ops [0,1,1,1,0,0,1,1,0,0,1,0,1] 4) [.seq [1,1,1,1,0,0,1,1,0,0,1,0,1],.block 1,.seq [1,1,1,0,0,1,0,1]] [1,2,8,9,10,31] [(32,.func (.func 115) #[] #[Vp bx])]) ?_
   clear hJ a w; intro a w hJ
   refine x_callq hJ 33 (hC _ bx (htr.sees (s3.trans hJ.j.seesQ)) (hJ.j.boxQ (b:=bx) (cs:=[.string x.1,Vi 0,Vi 0,Ve,Vi x.2.k,Vi x.2.n,.string x.2.s]) 0 rfl)) (fun _=>by kernel_rfl) ?_; clear hJ a w; intro h7 a w s8 hJ
   refine rk' hJ false 2 [] [] (.k (.code [1,1,1,1,0,0,1,1,0,0,1,0,1]) [.block 1,.seq [1,1,1,0,0,1,0,1]] [1,2,8,9,10,33] []) ?_
   clear hJ a w; intro a w hJ
   rcases Bool.eq_false_or_eq_true y with hy | hy
   ·rw [if_pos hy] at hv
    refine kY hJ (t:=y) (hy) ?_
    refine rk' hJ false 8 [] [] (.k (.out .ret) [] [] [(4,Vi 6)]) ?_
    clear hJ a w; intro a w hJ
    refine dY rfl ?_
    refine rx' hJ false 2 [] [] (.ok (.out .ret) [] [(4,Vi 6)] [.box bx [.string x.1,Vi 0,Vi 0,Ve,Vi x.2.k,Vi x.2.n,.string x.2.s],.box b1 [.slice A fs.length c,.slice (sA pv) (sN pv) (sC pv)]] [(b4,o5 + k * 7,[.string x.1,Vi 0,Vi 0,Ve,Vi x.2.k,Vi x.2.n,.string x.2.s])]) (fun _=>by kernel_rfl) ?_
    clear hJ a w; intro a w hJ
    refine zX (hQ [Vi 6] _ [] hJ (.rtm hJ.j .nil) (fJ _) rfl ?_).1
    exact congrArg (Value.int .i64) hv
   ·skip
    rw [if_neg (by rw [hy]; exact Bool.false_ne_true)] at hv
    refine aY hJ (t:=y) (hy) ?_
    refine rk' hJ false 7 [] [(34,Vi (IntKind.i64.wrap ((k:Int) + 1)),Vi ((k:Int) + 1))] (.k (.out .normal) [] [1,2,8,9] [(10,Vi ((k:Int) + 1))]) (hc:=And.intro (kJ (by omega) (by omega)) (trivial)) ?_
    clear hJ a w; intro a w hJ
    replace hJ:=hJ.drop 0
    exact jY ⟨k + 1,⟨h7,(hJ.tof [] (F':=[]) (by kernel_rfl)).to (by kernel_rfl) (by kernel_rfl) rfl,(s3.trans s8),by omega,(by rw [htk]; exact hv)⟩,by omega⟩
  ·skip
   rw [if_neg h1] at hv
   refine kY hJ (t:=z != 0) (bne_iff_ne.2 h1) ?_
   refine rk' hJ false 10 [] [] (.k (.out .ret) [] [] [(4,Vi z)]) ?_
   clear hJ a w; intro a w hJ
   refine dY rfl ?_
   refine rk' hJ false 2 [] [] (.k (.out .ret) [] [4] []) ?_
   clear hJ a w; intro a w hJ
   refine zX (hQ [Vi z] _ [] hJ (.rtm hJ.j .nil) (fJ _) rfl ?_).1
   exact congrArg (Value.int .i64) hv
 ·skip
  have hd:l.drop k=[]:=List.drop_eq_nil_of_le (by omega)
  rw [hd] at hv
  have hv:(0:Int)=vK fs [] l:=hv
  refine aY hJ (t:=decide ((k:Int) < (len:Int))) (decide_eq_false (by omega)) ?_
  refine rk' hJ false 2 [] [] (.k (.out (.exit 0)) [] [] []) ?_
  clear hJ a w; intro a w hJ
  refine dY rfl ?_
  refine rk' hJ false 8 [] [] (.k (.out .ret) [] [] [(4,Vi 0)]) ?_
  clear hJ a w; intro a w hJ
  refine zX (hQ [Vi 0] _ [] hJ (.rtm hJ.j .nil) (fJ _) rfl ?_).1
  exact congrArg (Value.int .i64) hv
end Go.Proofs.YthckljafinhepaaGreat
namespace Go.Proofs.YthckljafinhepaaGreat
open Go.RowKit
set_option linter.unusedVariables false
theorem known_no (v:Vl) (h:Vw) (hk:¬ v.k≤3) (h1:1≤v.k):C0 Tryz.prog 42 #[v.val] h (fun r _=>r=.bool false):=by
 refine yX Tryz.func42 (c:=Tryz.f42.body.getD .skip) (N:=16) ?_
 intro hbx hbad Q hQ a w hJ
 refine rx' hJ false 25 [.own,.b 0 0,.b 0 0] [(5,.bool (decide (v.k ≥ 1)),.bool true),(9,.bool (decide (v.k≤3)),.bool false)] (.new fun b1=>.ok (.out .ret) [] [(2,.bool false)] [.box b1 [Vi v.k,Vi v.n,.string v.s]] []) (hc:=And.intro (congrArg Value.bool (decide_eq_true h1)) (And.intro (congrArg Value.bool (decide_eq_false hk)) (trivial))) (fun b1 _=>by kernel_rfl) ?_
 clear hJ a w; intro b1 a w hJ
 refine zX (hQ [.bool false] _ [] hJ (.rtm hJ.j .nil) (fJ _) rfl ?_).1
 exact rfl
theorem chk_deep {x:Ex} (h:chkE x=0):(szE x).2≤12:=by
 unfold chkE at h
 split at h
 ·cases h
 ·split at h
  ·cases h
  ·omega
theorem asked_no (l:List Aw) (A:Option Addr) (n c:Nat) (s:ByteArray) (key:Vl) (h:Vw) (h4:¬ key.k≤3) (h1:1≤key.k):C0 Tryz.prog 63 #[.slice A n c,.string s,.agg #[.int .i64 key.k,.int .i64 key.n,.string key.s]] h (fun r _=>r=(askV l s key).val):=by
 have e:askV l s key=key:=by unfold askV; rw [if_neg h4]
 rw [e]
 have hk:=fun H=>known_no key H h4 h1
 refine yX Tryz.func63 (c:=Tryz.f63.body.getD .skip) (N:=33) ?_
 intro hbx hbad Q hQ a w hJ
 refine rx' hJ false 23 [.own,.own,.b 1 0,.cl 42 #[.agg #[Vi key.k,Vi key.n,.string key.s]] (.bool false),.b 1 0,.b 0 0] [] (.new fun b1=>.new fun b2=>.ok (.out .ret) [] [(6,Vp b2)] [.box b2 [Vi key.k,Vi key.n,.string key.s],.box b1 [Vi key.k,Vi key.n,.string key.s]] []) (ho:=And.intro (fun H sH=>hk _) (trivial)) (fun b1 b2 _=>by kernel_rfl) ?_
 clear hJ a w; intro b1 b2 a w hJ
 refine zX (hQ [.agg #[Vi key.k,Vi key.n,.string key.s]] _ [] hJ (.rcel hJ.j 0 .nil) (fJ _) rfl ?_).1
 exact rfl
theorem asked_yes (l:List Aw) (sl:Value) (s:ByteArray) (key:Vl) (h:Vw) (hr:RS h 7 sl (vJ l)) (hl:l.length≤1000000) (hk:key.known):C0 Tryz.prog 63 #[sl,.string s,.agg #[.int .i64 key.k,.int .i64 key.n,.string key.s]] h (fun r _=>r=(askV l s key).val):=by
 have e:askV l s key=askL s key l:=by unfold askV; rw [if_pos (known_kind hk).2]
 rw [e]
 have hkn:=c_kn key.k key.n key.s
 obtain ⟨A,c,rfl,-,-,-⟩:=hr.form
 rw [List.length_map] at *
 generalize hL:l.length=n at *
 refine yX Tryz.func63 (c:=Tryz.f63.body.getD .skip) (N:=33) ?_
 intro hbx hbad Q hQ a w hJ
 refine rk hJ false 26 [.own,.own,.b 1 0,.cl 42 #[.agg #[Vi key.k,Vi key.n,.string key.s]] (.bool true)] [] (.new fun b1=>.new fun b2=>.m (.code [0,1,0,1,1]) [.block 0,.seq [1,1,1]] [1] [(5,Vp b1),(6,Vp b2),(13,.slice A n c),(14,Vi (n:Int)),(15,Vi 0)] [.box b2 [Vi 0,Vi 0,Ve],.box b1 [Vi key.k,Vi key.n,.string key.s]] []) (And.intro (fun H sH=>hkn _ hk) (trivial)) trivial (fun b1 b2 _=>by kernel_rfl) ?_
 clear hJ a w; intro b1 b2 a w hJ
 refine eY (fun (k:Nat) a w=>∃ (h3:Vw) ,K ⟨33,h.w,h.bad,[]⟩ [(1,.string s),(5,Vp b1),(6,Vp b2),(13,.slice A n c),(14,Vi (n:Int)),(15,Vi (k:Int))] [.box b2 [Vi 0,Vi 0,Ve],.box b1 [Vi key.k,Vi key.n,.string key.s]] [] h3 a w∧Sees h h3∧(k≤n)∧(askL s key (l.drop k)=askL s key l)) (fun k=>n - k) (0) ⟨h,hJ.tw,Sees.refl _,Nat.zero_le _,rfl⟩ ?_
 clear hJ a w; rintro k a w ⟨h3,hJ,s4,hkl,hv⟩
 refine rk' hJ false 6 [] [] (.k (.code [0,1,0,0,1,0,1,1]) [.seq [1,1,0,0,1,0,1,1]] [1,5,6,13,14,15] [(16,.bool (decide ((k:Int) < (n:Int))))]) ?_
 clear hJ a w; intro a w hJ
 rcases (by omega:k < n∨k=n) with hlt | hke
 ·obtain ⟨p,hp⟩:∃ p,l[k]?=some p:=⟨_,List.getElem?_eq_getElem (by omega)⟩
  have hrow:(vJ l)[k]?=some (anRow p):=by rw [List.getElem?_map,hp]; rfl
  have hdr:l.drop k=p :: l.drop (k + 1):=by
   obtain ⟨h1,h2⟩:=List.getElem?_eq_some_iff.1 hp
   rw [List.drop_eq_getElem_cons h1,h2]
  rw [hdr,askL] at hv
  refine kY hJ (t:=decide ((k:Int) < (n:Int))) (decide_eq_true (by omega)) ?_
  refine rk' hJ false 6 [] [] (.k (.ops [0,0,0,1,1,0,0,1,0,1,1] 0) [.seq [1,0,0,1,1,0,0,1,0,1,1],.block 1,.seq [1,1,1,0,0,1,0,1,1]] [1,5,6,13,14,15] []) ?_
  clear hJ a w; intro a w hJ
  obtain ⟨b5,o6,rfl,-,c7⟩:=RS.row hr (hrow)
  replace hJ:=hJ.fact (c7.sees s4)
  refine rk hJ false 13 [.ix b5 o6 n c k,.f 0 0,.own,.b 0 0,.b 0 0] [] (.new fun b8=>.f (.ops [0,1,0,0,1,1,0,0,1,0,1,1] 5) [.seq [1,1,0,0,1,1,0,0,1,0,1,1],.block 1,.seq [1,1,1,0,0,1,0,1,1]] [1,5,6,13,14,15] [(8,Vp b8),(23,.bool (p.nm.toList == s.toList))] [.box b8 [.string p.nm,Vi p.key.k,Vi p.key.n,.string p.key.s,Vi p.has.k,Vi p.has.n,.string p.has.s],.box b2 [Vi 0,Vi 0,Ve],.box b1 [Vi key.k,Vi key.n,.string key.s]] [.o 0]) (And.intro (by first | omega | (simp; omega)) (trivial)) trivial (fun b8 _=>by kernel_rfl) ?_
  clear hJ a w; intro b8 a w hJ
  by_cases g:(p.nm.toList == s.toList)=true
  ·skip
   by_cases q:eqB p.key key=true
   ·have hh:p.hit s key=true:=by unfold Aw.hit; rw [g,q]; rfl
    rw [if_pos hh] at hv
    replace hJ:=hJ.rew 23 (v:=.bool (p.nm.toList == s.toList)) (v':=.bool true) (congrArg Value.bool g) (by kernel_rfl)
    replace hJ:K ⟨33,h.w,h.bad,[]⟩ [(1,.string s),(5,Vp b1),(6,Vp b2),(13,.slice (some ⟨b5,o6,none⟩) n c),(14,Vi (n:Int)),(15,Vi (k:Int)),(8,Vp b8),(23,.bool true)] [.box b8 [.string p.nm,Vi p.key.k,Vi p.key.n,.string p.key.s,Vi p.has.k,Vi p.has.n,.string p.has.s],.box b2 [Vi 0,Vi 0,Ve],.box b1 [Vi key.k,Vi key.n,.string key.s]] [(b5,o6 + k * 7,[.string p.nm,Vi p.key.k,Vi p.key.n,.string p.key.s,Vi p.has.k,Vi p.has.n,.string p.has.s])] h3 a w:=hJ.to (by kernel_rfl) rfl rfl
    refine rk' hJ false 3 [.b 0 1,.b 2 0] [] (.k (.ops [0,1,0,0,1,1,0,0,1,0,1,1] 8) [.seq [1,1,0,0,1,1,0,0,1,0,1,1],.block 1,.seq [1,1,1,0,0,1,0,1,1]] [1,5,6,13,14,15,8,23] [(25,.agg #[Vi p.key.k,Vi p.key.n,.string p.key.s]),(26,.agg #[Vi key.k,Vi key.n,.string key.s])]) ?_
    clear hJ a w; intro a w hJ
    refine x_pure hJ 27 (.bool true) (by kernel_rfl) (fun w=>run_eqop (x:=(.tmp 25)) (y:=(.tmp 26)) (v:=p.key) (w:=key) (by kernel_rfl) (by kernel_rfl) (by kernel_rfl) (q)) ?_; clear hJ a w; intro a w hJ
    refine rk' hJ false 14 [.b 0 4,.b 1 0] [] (.f (.out .ret) [] [6] [] [.box b8 [.string p.nm,Vi p.key.k,Vi p.key.n,.string p.key.s,Vi p.has.k,Vi p.has.n,.string p.has.s],.box b2 [Vi p.has.k,Vi p.has.n,.string p.has.s],.box b1 [Vi key.k,Vi key.n,.string key.s]] [.o 0]) ?_
    clear hJ a w; intro a w hJ
    refine dY rfl ?_
    refine rk' hJ false 2 [] [] (.k (.out .ret) [] [6] []) ?_
    clear hJ a w; intro a w hJ
    refine zX (hQ [.agg #[Vi p.has.k,Vi p.has.n,.string p.has.s]] _ [] hJ (.rcel hJ.j 1 .nil) (fJ _) rfl ?_).1
    exact congrArg Vl.val hv
   ·skip
    have hh:¬ p.hit s key=true:=by unfold Aw.hit; rw [g]; exact q
    rw [if_neg hh] at hv
    replace hJ:=hJ.rew 23 (v:=.bool (p.nm.toList == s.toList)) (v':=.bool true) (congrArg Value.bool g) (by kernel_rfl)
    replace hJ:K ⟨33,h.w,h.bad,[]⟩ [(1,.string s),(5,Vp b1),(6,Vp b2),(13,.slice (some ⟨b5,o6,none⟩) n c),(14,Vi (n:Int)),(15,Vi (k:Int)),(8,Vp b8),(23,.bool true)] [.box b8 [.string p.nm,Vi p.key.k,Vi p.key.n,.string p.key.s,Vi p.has.k,Vi p.has.n,.string p.has.s],.box b2 [Vi 0,Vi 0,Ve],.box b1 [Vi key.k,Vi key.n,.string key.s]] [(b5,o6 + k * 7,[.string p.nm,Vi p.key.k,Vi p.key.n,.string p.key.s,Vi p.has.k,Vi p.has.n,.string p.has.s])] h3 a w:=hJ.to (by kernel_rfl) rfl rfl
    refine rk' hJ false 3 [.b 0 1,.b 2 0] [] (.k (.ops [0,1,0,0,1,1,0,0,1,0,1,1] 8) [.seq [1,1,0,0,1,1,0,0,1,0,1,1],.block 1,.seq [1,1,1,0,0,1,0,1,1]] [1,5,6,13,14,15,8,23] [(25,.agg #[Vi p.key.k,Vi p.key.n,.string p.key.s]),(26,.agg #[Vi key.k,Vi key.n,.string key.s])]) ?_
    clear hJ a w; intro a w hJ
    refine x_pure hJ 27 (.bool false) (by kernel_rfl) (fun w=>run_eqop (x:=(.tmp 25)) (y:=(.tmp 26)) (v:=p.key) (w:=key) (by kernel_rfl) (by kernel_rfl) (by kernel_rfl) (Bool.eq_false_iff.2 q)) ?_; clear hJ a w; intro a w hJ
    refine rx' hJ false 11 [] [(31,Vi (IntKind.i64.wrap ((k:Int) + 1)),Vi ((k:Int) + 1))] (.ok (.out .normal) [] [(1,.string s),(5,Vp b1),(6,Vp b2),(13,.slice (some ⟨b5,o6,none⟩) n c),(14,Vi (n:Int)),(15,Vi ((k:Int) + 1))] [.box b8 [.string p.nm,Vi p.key.k,Vi p.key.n,.string p.key.s,Vi p.has.k,Vi p.has.n,.string p.has.s],.box b2 [Vi 0,Vi 0,Ve],.box b1 [Vi key.k,Vi key.n,.string key.s]] [(b5,o6 + k * 7,[.string p.nm,Vi p.key.k,Vi p.key.n,.string p.key.s,Vi p.has.k,Vi p.has.n,.string p.has.s])]) (hc:=And.intro (kJ (by omega) (by omega)) (trivial)) (fun _=>by kernel_rfl) ?_
    clear hJ a w; intro a w hJ
    replace hJ:=hJ.drop 0
    exact jY ⟨k + 1,⟨h3,(hJ.tof [] (F':=[]) (by kernel_rfl)).to (by kernel_rfl) (by kernel_rfl) rfl,s4,by omega,hv⟩,by omega⟩
  ·skip
   have hh:¬ p.hit s key=true:=by unfold Aw.hit; rw [Bool.eq_false_iff.2 g]; exact Bool.false_ne_true
   rw [if_neg hh] at hv
   replace hJ:=hJ.rew 23 (v:=.bool (p.nm.toList == s.toList)) (v':=.bool false) (congrArg Value.bool (Bool.eq_false_iff.2 g)) (by kernel_rfl)
   replace hJ:K ⟨33,h.w,h.bad,[]⟩ [(1,.string s),(5,Vp b1),(6,Vp b2),(13,.slice (some ⟨b5,o6,none⟩) n c),(14,Vi (n:Int)),(15,Vi (k:Int)),(8,Vp b8),(23,.bool false)] [.box b8 [.string p.nm,Vi p.key.k,Vi p.key.n,.string p.key.s,Vi p.has.k,Vi p.has.n,.string p.has.s],.box b2 [Vi 0,Vi 0,Ve],.box b1 [Vi key.k,Vi key.n,.string key.s]] [(b5,o6 + k * 7,[.string p.nm,Vi p.key.k,Vi p.key.n,.string p.key.s,Vi p.has.k,Vi p.has.n,.string p.has.s])] h3 a w:=hJ.to (by kernel_rfl) rfl rfl
   refine rk' hJ false 15 [] [(31,Vi (IntKind.i64.wrap ((k:Int) + 1)),Vi ((k:Int) + 1))] (.k (.out .normal) [] [1,5,6,13,14] [(15,Vi ((k:Int) + 1))]) (hc:=And.intro (kJ (by omega) (by omega)) (trivial)) ?_
   clear hJ a w; intro a w hJ
   replace hJ:=hJ.drop 0
   exact jY ⟨k + 1,⟨h3,(hJ.tof [] (F':=[]) (by kernel_rfl)).to (by kernel_rfl) (by kernel_rfl) rfl,s4,by omega,hv⟩,by omega⟩
 ·skip
  have hd:l.drop k=[]:=List.drop_eq_nil_of_le (by omega)
  rw [hd] at hv
  refine aY hJ (t:=decide ((k:Int) < (n:Int))) (decide_eq_false (by omega)) ?_
  refine rk' hJ false 2 [] [] (.k (.out (.exit 0)) [] [6] []) ?_
  clear hJ a w; intro a w hJ
  refine dY rfl ?_
  refine rx' hJ false 9 [.b 0 0] [] (.ok (.out .ret) [] [(6,Vp b2)] [.box b2 [Vi 4,Vi 0,Ve],.box b1 [Vi key.k,Vi key.n,.string key.s]] []) (fun _=>by kernel_rfl) ?_
  clear hJ a w; intro a w hJ
  refine zX (hQ [.agg #[Vi 4,Vi 0,Ve]] _ [] hJ (.rcel hJ.j 0 .nil) (fJ _) rfl ?_).1
  exact congrArg Vl.val hv
theorem asked_any (l:List Aw) (sl:Value) (s:ByteArray) (key:Vl) (h:Vw) (hr:RS h 7 sl (vJ l)) (hl:l.length≤1000000) (hk:OkV key):C0 Tryz.prog 63 #[sl,.string s,.agg #[.int .i64 key.k,.int .i64 key.n,.string key.s]] h (fun r _=>r=(askV l s key).val):=by
 by_cases g:key.k≤3
 ·rcases hk with q | rfl | ⟨q,-⟩
  ·exact asked_yes l sl s key h hr hl q
  ·exact absurd g (by decide)
  ·omega
 ·obtain ⟨A,c,rfl,-,-,-⟩:=hr.form
  exact asked_no l A _ c s key h g (ok_kinds hk).1
set_option maxHeartbeats 4000000 in
theorem one_inp (f:Fd) (n1 n2 n3 c1 c2 c3:Nat) (A1 A2 A3:Option Addr) (inp:Env) (si:Value) (h:Vw) (hi:RS h 7 si (zK inp)) (li:inp.length≤1000000) (g:f.kind=1) :
  C0 Tryz.prog 20 #[.agg #[.string f.name,.int .i64 f.kind,.int .i64 f.ty,.int .i64 f.src.op,.int .i64 f.src.k,.int .i64 f.src.n,.string f.src.s,.string f.src.nm,.slice A1 n1 c1],si,.slice A2 n2 c2,.slice A3 n3 c3] h (fun r _=>r=(tellV f.name f.ty inp).val):=by
 obtain ⟨A,c,rfl,-,-,-⟩:=hi.form
 rw [List.length_map] at *
 generalize hL:inp.length=n at *
 refine yX Tryz.func20 (c:=Tryz.f20.body.getD .skip) (N:=49) ?_
 intro hbx hbad Q hQ a w hJ
 refine rx' hJ false 24 [.own,.own,.b 1 1] [(15,.bool (f.kind == 1),.bool true)] (.new fun b1=>.new fun b2=>.ok (.code [0,1,0,0,1,0,1]) [.block 0,.seq [1,0,1,0,1],.seq [1,1]] [(4,Vp b1),(8,Vp b2),(16,.slice A n c),(17,Vi (n:Int)),(18,Vi 0)] [.box b2 [Vi 0,Vi 0,Ve],.box b1 [.string f.name,Vi f.kind,Vi f.ty,Vi f.src.op,Vi f.src.k,Vi f.src.n,.string f.src.s,.string f.src.nm,.slice A1 n1 c1]] []) (hc:=And.intro (congrArg Value.bool (beq_iff_eq.2 g)) (trivial)) (fun b1 b2 _=>by kernel_rfl) ?_
 clear hJ a w; intro b1 b2 a w hJ
 refine eY (fun (k:Nat) a w=>∃ (h3:Vw) ,K ⟨49,h.w,h.bad,[]⟩ [(4,Vp b1),(8,Vp b2),(16,.slice A n c),(17,Vi (n:Int)),(18,Vi (k:Int))] [.box b2 [Vi 0,Vi 0,Ve],.box b1 [.string f.name,Vi f.kind,Vi f.ty,Vi f.src.op,Vi f.src.k,Vi f.src.n,.string f.src.s,.string f.src.nm,.slice A1 n1 c1]] [] h3 a w∧Sees h h3∧(k≤n)∧(tellV f.name f.ty (inp.drop k)=tellV f.name f.ty inp)) (fun k=>n - k) (0) ⟨h,hJ.tw,Sees.refl _,Nat.zero_le _,rfl⟩ ?_
 clear hJ a w; rintro k a w ⟨h3,hJ,s4,hkl,hv⟩
 refine rk' hJ false 6 [] [] (.k (.code [0,1,0,0,1,0,0,1,0,1]) [.seq [1,1,0,0,1,0,0,1,0,1]] [4,8,16,17,18] [(19,.bool (decide ((k:Int) < (n:Int))))]) ?_
 clear hJ a w; intro a w hJ
 rcases (by omega:k < n∨k=n) with hlt | hke
 ·obtain ⟨p,hp⟩:∃ p,inp[k]?=some p:=⟨_,List.getElem?_eq_getElem (by omega)⟩
  have hrow:(zK inp)[k]?=some (fcRow p):=by rw [List.getElem?_map,hp]; rfl
  have hdr:inp.drop k=p :: inp.drop (k + 1):=by
   obtain ⟨h1,h2⟩:=List.getElem?_eq_some_iff.1 hp
   rw [List.drop_eq_getElem_cons h1,h2]
  rw [hdr,tellV] at hv
  refine kY hJ (t:=decide ((k:Int) < (n:Int))) (decide_eq_true (by omega)) ?_
  refine rk' hJ false 6 [] [] (.k (.ops [0,0,0,1,1,0,0,1,0,0,1,0,1] 0) [.seq [1,0,0,1,1,0,0,1,0,0,1,0,1],.block 1,.seq [1,1,1,0,0,1,0,0,1,0,1]] [4,8,16,17,18] []) ?_
  clear hJ a w; intro a w hJ
  obtain ⟨b5,o6,rfl,-,c7⟩:=RS.row hi (hrow)
  replace hJ:=hJ.fact (c7.sees s4)
  refine rk hJ false 15 [.ix b5 o6 n c k,.f 0 0,.own,.b 0 0,.b 0 0,.b 2 0] [] (.new fun b8=>.f (.code [1,1,0,0,1,1,0,0,1,0,0,1,0,1]) [.block 1,.seq [1,1,1,0,0,1,0,0,1,0,1]] [4,8,16,17,18] [(10,Vp b8),(26,.bool (p.1.toList == f.name.toList))] [.box b8 [.string p.1,Vi 0,Vi 0,Ve,Vi p.2.k,Vi p.2.n,.string p.2.s],.box b2 [Vi 0,Vi 0,Ve],.box b1 [.string f.name,Vi f.kind,Vi f.ty,Vi f.src.op,Vi f.src.k,Vi f.src.n,.string f.src.s,.string f.src.nm,.slice A1 n1 c1]] [.o 0]) (And.intro (by first | omega | (simp; omega)) (trivial)) trivial (fun b8 _=>by kernel_rfl) ?_
  clear hJ a w; intro b8 a w hJ
  by_cases q:(p.1.toList == f.name.toList)=true
  ·rw [if_pos q] at hv
   refine kY hJ (t:=p.1.toList == f.name.toList) (q) ?_
   refine rk' hJ false 10 [.b 0 4,.b 1 0] [] (.f (.out .ret) [] [8] [] [.box b8 [.string p.1,Vi 0,Vi 0,Ve,Vi p.2.k,Vi p.2.n,.string p.2.s],.box b2 [Vi p.2.k,Vi p.2.n,.string p.2.s],.box b1 [.string f.name,Vi f.kind,Vi f.ty,Vi f.src.op,Vi f.src.k,Vi f.src.n,.string f.src.s,.string f.src.nm,.slice A1 n1 c1]] [.o 0]) ?_
   clear hJ a w; intro a w hJ
   refine dY rfl ?_
   refine rk' hJ false 3 [] [] (.k (.out .ret) [] [8] []) ?_
   clear hJ a w; intro a w hJ
   refine zX (hQ [.agg #[Vi p.2.k,Vi p.2.n,.string p.2.s]] _ [] hJ (.rcel hJ.j 1 .nil) (fJ _) rfl ?_).1
   exact congrArg Vl.val hv
  ·skip
   rw [if_neg q] at hv
   refine aY hJ (t:=p.1.toList == f.name.toList) (Bool.eq_false_iff.2 q) ?_
   refine rk' hJ false 7 [] [(29,Vi (IntKind.i64.wrap ((k:Int) + 1)),Vi ((k:Int) + 1))] (.k (.out .normal) [] [4,8,16,17] [(18,Vi ((k:Int) + 1))]) (hc:=And.intro (kJ (by omega) (by omega)) (trivial)) ?_
   clear hJ a w; intro a w hJ
   replace hJ:=hJ.drop 0
   exact jY ⟨k + 1,⟨h3,(hJ.tof [] (F':=[]) (by kernel_rfl)).to (by kernel_rfl) (by kernel_rfl) rfl,s4,by omega,hv⟩,by omega⟩
 ·skip
  have hd:inp.drop k=[]:=List.drop_eq_nil_of_le (by omega)
  rw [hd] at hv
  refine aY hJ (t:=decide ((k:Int) < (n:Int))) (decide_eq_false (by omega)) ?_
  refine rk' hJ false 2 [] [] (.k (.out (.exit 0)) [] [4,8] []) ?_
  clear hJ a w; intro a w hJ
  refine dY rfl ?_
  refine rx' hJ false 12 [.b 1 2,.b 0 0] [] (.ok (.out .ret) [] [(8,Vp b2)] [.box b2 [Vi f.ty,Vi 0,Ve],.box b1 [.string f.name,Vi f.kind,Vi f.ty,Vi f.src.op,Vi f.src.k,Vi f.src.n,.string f.src.s,.string f.src.nm,.slice A1 n1 c1]] []) (fun _=>by kernel_rfl) ?_
  clear hJ a w; intro a w hJ
  refine zX (hQ [.agg #[Vi f.ty,Vi 0,Ve]] _ [] hJ (.rcel hJ.j 0 .nil) (fJ _) rfl ?_).1
  exact congrArg Vl.val hv
theorem one_any (fs:List Fd) (f:Fd) (v:Value) (inp:Env) (si:Value) (orc:List Aw) (so:Value) (kn:Env) (sk:Value) (h:Vw) (hf:OkF fs f) (ha:IsArgs h f.src v) (hi:RS h 7 si (zK inp)) (ho:RS h 7 so (vJ orc)) (hk:RS h 7 sk (zK kn))
  (li:inp.length≤1000) (lo:orc.length≤1000) (lk:kn.length≤1000) (okk:∀ p∈kn,OkV p.2) :
  C0 Tryz.prog 20 #[.agg #[.string f.name,.int .i64 f.kind,.int .i64 f.ty,.int .i64 f.src.op,.int .i64 f.src.k,.int .i64 f.src.n,.string f.src.s,.string f.src.nm,v],si,so,sk] h (fun r _=>r=(oneV f inp orc kn).val):=by
 obtain ⟨A1,n1,c1,rfl⟩:=ha.slice
 obtain ⟨A2,c2,rfl,-,-,-⟩:=ho.form
 obtain ⟨A3,c3,rfl,-,-,-⟩:=hk.form
 rw [List.length_map] at *
 rw [List.length_map] at *
 by_cases g:f.kind=1
 ·have e:oneV f inp orc kn=tellV f.name f.ty inp:=by unfold oneV; rw [if_pos g]
  rw [e]
  exact one_inp f _ _ _ _ _ _ _ _ _ inp si h hi (by omega) g
 ·obtain ⟨w1,w2,w3⟩:=hf.wf g
  have w4:(szE f.src).2≤12:=chk_deep w3
  have hE:=fun H q1 q2=>eval_any f.src (.slice A1 n1 c1) kn (.slice A3 kn.length c3) H q1 w1 w2 w4 q2 okk lk
  have hv:=evalE_ok (get_ok okk) _ f.src (Nat.le_refl _) w1
  have hA:=fun H q=>asked_any orc (.slice A2 orc.length c2) f.name (nK kn f.src) H q (by omega) hv
  obtain ⟨A,c,rfl,-,-,-⟩:=hi.form
  rw [List.length_map] at *
  generalize inp.length=n at *
  have e:oneV f inp orc kn=if f.kind=3 then askV orc f.name (nK kn f.src) else nK kn f.src:=by unfold oneV; rw [if_neg g]
  rw [e]
  generalize nK kn f.src=key at *
  generalize askV orc f.name key=av at *
  generalize orc.length=n2 at *
  generalize kn.length=n3 at *
  by_cases g3:f.kind=3
  ·rw [if_pos g3]
   refine yX Tryz.func20 (c:=Tryz.f20.body.getD .skip) (N:=49) ?_
   intro hbx hbad Q hQ a w hJ
   refine rx hJ false 52 [.own,.own,.b 1 1,.b 1 3,.cl 57 #[.agg #[Vi f.src.op,Vi f.src.k,Vi f.src.n,.string f.src.s,.string f.src.nm,.slice A1 n1 c1],.slice A3 n3 c3] (.tuple #[.agg #[Vi key.k,Vi key.n,.string key.s],Vi 0]),.own,.b 0 0,.b 2 1,.b 2 0,.b 0 0,.cl 63 #[.slice A2 n2 c2,.string f.name,.agg #[Vi key.k,Vi key.n,.string key.s]] (.agg #[Vi av.k,Vi av.n,.string av.s]),.b 1 0] [(15,.bool (f.kind == 1),.bool false),(42,.bool (f.kind == 3),.bool true)] (.new fun b1=>.new fun b2=>.new fun b3=>.ok (.out .ret) [] [(8,Vp b2)] [.box b3 [Vi key.k,Vi key.n,.string key.s],.box b2 [Vi av.k,Vi av.n,.string av.s],.box b1 [.string f.name,Vi f.kind,Vi f.ty,Vi f.src.op,Vi f.src.k,Vi f.src.n,.string f.src.s,.string f.src.nm,.slice A1 n1 c1]] []) (And.intro (fun H sH=>hE _ (ha.sees sH) (hk.sees sH)) (And.intro (fun H sH=>hA _ (ho.sees sH)) (trivial))) (And.intro (congrArg Value.bool (beq_eq_false_iff_ne.2 g)) (And.intro (congrArg Value.bool (beq_iff_eq.2 g3)) (trivial))) (fun b1 b2 b3 _=>by kernel_rfl) ?_
   clear hJ a w; intro b1 b2 b3 a w hJ
   refine zX (hQ [.agg #[Vi av.k,Vi av.n,.string av.s]] _ [] hJ (.rcel hJ.j 1 .nil) (fJ _) rfl ?_).1
   exact rfl
  ·rw [if_neg g3]
   refine yX Tryz.func20 (c:=Tryz.f20.body.getD .skip) (N:=49) ?_
   intro hbx hbad Q hQ a w hJ
   refine rx hJ false 49 [.own,.own,.b 1 1,.b 1 3,.cl 57 #[.agg #[Vi f.src.op,Vi f.src.k,Vi f.src.n,.string f.src.s,.string f.src.nm,.slice A1 n1 c1],.slice A3 n3 c3] (.tuple #[.agg #[Vi key.k,Vi key.n,.string key.s],Vi 0]),.own,.b 0 0,.b 2 1,.b 0 0,.b 1 0] [(15,.bool (f.kind == 1),.bool false),(42,.bool (f.kind == 3),.bool false)] (.new fun b1=>.new fun b2=>.new fun b3=>.ok (.out .ret) [] [(8,Vp b2)] [.box b3 [Vi key.k,Vi key.n,.string key.s],.box b2 [Vi key.k,Vi key.n,.string key.s],.box b1 [.string f.name,Vi f.kind,Vi f.ty,Vi f.src.op,Vi f.src.k,Vi f.src.n,.string f.src.s,.string f.src.nm,.slice A1 n1 c1]] []) (And.intro (fun H sH=>hE _ (ha.sees sH) (hk.sees sH)) (trivial)) (And.intro (congrArg Value.bool (beq_eq_false_iff_ne.2 g)) (And.intro (congrArg Value.bool (beq_eq_false_iff_ne.2 g3)) (trivial))) (fun b1 b2 b3 _=>by kernel_rfl) ?_
   clear hJ a w; intro b1 b2 b3 a w hJ
   refine zX (hQ [.agg #[Vi key.k,Vi key.n,.string key.s]] _ [] hJ (.rcel hJ.j 1 .nil) (fJ _) rfl ?_).1
   exact rfl
theorem oracle_nil (A:Option Addr) (n c:Nat) (B:Option Addr) (m d:Nat) (so:Value) (h:Vw) (ho:RS h 7 so (vJ [])):C0 Tryz.prog 91 #[.agg #[.slice A n c,.slice B m d],so] h (fun r _=>r=.int .i64 0):=by
 obtain ⟨A1,c1,rfl,-,-,-⟩:=ho.form
 refine yX Tryz.func91 (c:=Tryz.f91.body.getD .skip) (N:=83) ?_
 intro hbx hbad Q hQ a w hJ
 refine rk' hJ false 15 [.own] [] (.new fun b1=>.m (.code [0,1,0,1]) [.block 0,.seq [1,1]] [1] [(2,Vp b1),(13,.slice A1 0 c1),(14,Vi 0),(15,Vi 0)] [.box b1 [.slice A n c,.slice B m d]] []) (hr:=fun b1 _=>by kernel_rfl) ?_
 clear hJ a w; intro b1 a w hJ
 refine eY (fun (k:Nat) a w=>∃ (h2:Vw) ,K ⟨83,h.w,h.bad,[]⟩ [(1,.slice A1 0 c1),(2,Vp b1),(13,.slice A1 0 c1),(14,Vi 0),(15,Vi ((0:Nat):Int))] [.box b1 [.slice A n c,.slice B m d]] [] h2 a w∧Sees h h2∧(k=0)) (fun k=>k) (0) ⟨h,hJ.tw,Sees.refl _,rfl⟩ ?_
 clear hJ a w; rintro k a w ⟨h2,hJ,s3,hk⟩
 refine rk' hJ false 6 [] [] (.k (.code [0,1,0,0,1,0,1]) [.seq [1,1,0,0,1,0,1]] [1,2,13,14,15] [(16,.bool (decide (((0:Nat):Int) < 0)))]) ?_
 clear hJ a w; intro a w hJ
 refine aY hJ (t:=decide (((0:Nat):Int) < 0)) (decide_eq_false (by omega)) ?_
 refine rk' hJ false 2 [] [] (.k (.out (.exit 0)) [] [] []) ?_
 clear hJ a w; intro a w hJ
 refine dY rfl ?_
 refine rk' hJ false 8 [] [] (.k (.out .ret) [] [] [(4,Vi 0)]) ?_
 clear hJ a w; intro a w hJ
 refine zX (hQ [Vi 0] _ [] hJ (.rtm hJ.j .nil) (fJ _) rfl ?_).1
 exact rfl
theorem whCheck_any (f:Fm) (ρ:List Int) (lv:Nat→Nat) (A:Option Addr) (n c:Nat) (B:Option Addr) (m d:Nat) (inp:Env) (si so:Value) (orc:List Aw) (h:Vw) (hok:OkFm f ρ lv) (hf:IsForm h (.slice A n c) (.slice B m d) f) (hn:n=f.fields.length)
  (hi:RS h 7 si (zK inp)) (li:inp.length≤1000000) (ki:∀ p∈inp,p.2.known) (ti:vK f.fields [] inp=0) (ho:RS h 7 so (vJ orc))
  (hO:∀ H,IsForm H (.slice A n c) (.slice B m d) f→RS H 7 so (vJ orc)→C0 Tryz.prog 91 #[.agg #[.slice A n c,.slice B m d],so] H (fun r _=>r=.int .i64 0)) :
  C0 Tryz.prog 61 #[.agg #[.slice A n c,.slice B m d],si,so] h (fun r _=>r=.int .i64 0):=by
 have hC:=fun H q=>shCheck_any f ρ lv A n c B m d H hok q hn
 have few:=hok.fields.few
 have hF:=fun H q1 q2=>facts_v f.fields (.slice A n c) (.slice B m d) inp si H q1 rfl (by omega) q2 li ki
 rw [ti] at hF
 obtain ⟨A1,c1,rfl,-,-,-⟩:=hi.form
 obtain ⟨A2,c2,rfl,-,-,-⟩:=ho.form
 rw [List.length_map] at *
 rw [List.length_map] at *
 refine yX Tryz.func61 (c:=Tryz.f61.body.getD .skip) (N:=23) ?_
 intro hbx hbad Q hQ a w hJ
 refine rx' hJ false 50 [.own,.b 0 0,.cl 84 #[.agg #[.slice A n c,.slice B m d]] (Vi 0),.b 0 0,.cl 90 #[.agg #[.slice A n c,.slice B m d],.slice A1 inp.length c1] (Vi 0),.b 0 0,.cl 91 #[.agg #[.slice A n c,.slice B m d],.slice A2 orc.length c2] (Vi 0)] [] (.new fun b1=>.ok (.out .ret) [] [(6,Vi 0)] [.box b1 [.slice A n c,.slice B m d]] []) (ho:=And.intro (fun H sH=>hC _ (hf.sees sH)) (And.intro (fun H sH=>hF _ ((hf.sees sH)).fields (hi.sees sH)) (And.intro (fun H sH=>hO _ (hf.sees sH) (ho.sees sH)) (trivial)))) (fun b1 _=>by kernel_rfl) ?_
 clear hJ a w; intro b1 a w hJ
 refine zX (hQ [Vi 0] _ [] hJ (.rtm hJ.j .nil) (fJ _) rfl ?_).1
 exact rfl
def AllO (n:Nat) (va:List Vl) (r u:Value) (l:List (List Value)):Prop:=r=.tuple #[u,.int .i64 0]∧(∃ A' c',u=.slice A' n c')∧l=sX va
set_option maxHeartbeats 4000000 in
theorem whAll_own (f:Fm) (ρ:List Int) (lv:Nat→Nat) (A:Option Addr) (n c:Nat) (B:Option Addr) (m d:Nat) (inp:Env) (si so:Value) (orc:List Aw) (h:Vw) (hok:OkFm f ρ lv) (hf:IsForm h (.slice A n c) (.slice B m d) f) (hn:n=f.fields.length) (h1:1≤n)
  (hi:RS h 7 si (zK inp)) (li:inp.length≤1000) (ki:∀ p∈inp,p.2.known) (ti:vK f.fields [] inp=0) (ho:RS h 7 so (vJ orc)) (lo:orc.length≤1000) (ko:∀ p∈orc,OkV p.has)
  (hO:∀ H,IsForm H (.slice A n c) (.slice B m d) f→RS H 7 so (vJ orc)→C0 Tryz.prog 91 #[.agg #[.slice A n c,.slice B m d],so] H (fun r _=>r=.int .i64 0)) :
  C0 Tryz.prog 18 #[.agg #[.slice A n c,.slice B m d],si,so] h (fun r h'=>∃ u l,Ent.ok h.w.heap.size h'.w (.row u 38 3 l)∧AllO n (allW f.fields inp orc (aW ρ n)) r u l):=by
 have hC:=fun H q1 q2 q3=>whCheck_any f ρ lv A n c B m d inp si so orc H hok q1 hn q2 (by omega) ki ti q3 hO
 have few:=hok.fields.few
 have hOr:=fun H q=>order_any f.fields (.slice A n c) H hok.fields q ρ lv hok.rank (by omega) (by omega)
 rw [← hn] at hOr
 have hod:Ordd f.fields ρ lv (aW ρ n):=by rw [hn]; exact ordL_ordd hok.rank (by omega)
 have hol:=hod.len
 have hrun:=run_inv hok.fields ki ko hod
 have hon:∀ (g:Fd) (u sk:Value) (kn:Env) (H:Vw),g∈f.fields→IsArgs H g.src u→RS H 7 si (zK inp)→RS H 7 so (vJ orc)→RS H 7 sk (zK kn)→kn.length≤1000→(∀ p∈kn,OkV p.2)→_:=fun g u sk kn H q0 q1 q2 q3 q4 q5 q6=>one_any f.fields g u inp si orc so kn sk H (hok.fields.each g q0) q1 q2 q3 q4 li lo q5 q6
 obtain ⟨A1,c1,rfl,-,-,-⟩:=hi.form
 obtain ⟨A2,c2,rfl,-,-,-⟩:=ho.form
 rw [List.length_map] at *
 rw [List.length_map] at *
 obtain ⟨vs,A3,c3,e3,-,-,hr3,hs3,hl3,hsl⟩:=dQ hf.fields
 simp only [Value.slice.injEq] at e3
 obtain ⟨rfl,-,rfl⟩:=e3
 rw [← hn] at hr3 hl3
 have hstep:=fun k i (hi:(aW ρ n)[k]?=some i) (g:Fd) (hg:f.fields[i]?=some g)=>run_at f.fields inp orc (aW ρ n) k i hi g hg
 show C0 _ _ _ _ (fun r h'=>∃ u l,Ent.ok h.w.heap.size h'.w (.row u 38 3 l)∧AllO n (runW f.fields inp orc (aW ρ n)).1 r u l)
 have hlt':=fun i (q:i∈aW ρ n)=>hod.lt q
 rw [← hn] at hlt' hol
 have hlen:=fun k q=>(hrun k q).len
 have hkl:=fun k q=>(hrun k q).klen
 have hok':=fun k q=>(hrun k q).ok
 clear hrun hod
 have hw0:runW f.fields inp orc []=(List.replicate n zV,[]):=by rw [hn]; rfl
 generalize aW ρ n=os at *
 generalize runW f.fields inp orc=rw' at *
 generalize hni:inp.length=ni at *
 generalize hno:orc.length=no at *
 refine yX Tryz.func18 (c:=Tryz.f18.body.getD .skip) (N:=66) ?_
 intro hbx hbad Q hQ a w hJ
 refine rk hJ false 30 [.own,.b 0 0,.cl 61 #[.agg #[.slice A n c,.slice B m d],.slice A1 ni c1,.slice A2 no c2] (Vi 0),.b 0 0] [] (.new fun b1=>.m (.ops [0,1,1] 2) [.seq [1,1,1]] [1,2] [(3,Vp b1),(24,.slice A n c)] [.box b1 [.slice A n c,.slice B m d]] []) (And.intro (fun H sH=>hC _ (hf.sees sH) (hi.sees sH) (ho.sees sH)) (trivial)) trivial (fun b1 _=>by kernel_rfl) ?_
 clear hJ a w; intro b1 a w hJ
 refine wX hJ 25 (hOr _ ((hf.sees hJ.j.sees)).fields) (fun _=>by kernel_rfl) ?_; clear hJ a w; rintro _ h2 a w s3 ⟨A4,c4,rfl,hro⟩ hJ
 refine rk' hJ false 12 [.b 0 0] [] (.k (.ops [0,1,1,1] 3) [.seq [1,1,1,1]] [1,2,3] [(9,.slice A4 n c4),(30,Vi (n:Int))]) ?_
 clear hJ a w; intro a w hJ
 refine x_makek hJ 31 (t:=32) (e:=38) (z:=.agg #[Vi 0,Vi 0,Ve]) (cs:=[Vi 0,Vi 0,Ve]) (x:=(.tmp 30)) (by_:=32) (m:=n) (kk:=3) (by kernel_rfl) (by kernel_rfl) (by kernel_rfl) Tryz.underlying32 (by kernel_rfl) rfl rfl (by decide) (by omega) (by omega) (by simp only [maxLen]; omega) ?_; clear hJ a w; intro b4 a w hJ
 refine rk' hJ false 17 [] [] (.k (.code [0,1,0,1,1,1,1,1]) [.block 0,.seq [1,1,1,1,1,1]] [1,2,3] [(11,Vs b4 n n),(12,Vz),(32,.slice A4 n c4),(33,Vi (n:Int)),(34,Vi 0)]) ?_
 clear hJ a w; intro a w hJ
 replace hJ:=hJ.nilrow 54 7
 rw [show List.replicate n [.int .i64 0,.int .i64 0,.string ⟨#[]⟩]=sX (List.replicate n zV) from by unfold sX; rw [List.map_replicate]; rfl] at hJ
 refine eY (fun (k:Nat) a w=>∃ (h5:Vw) (v:Value) (ov:List Vl) (kv:Env),K ⟨66,h.w,h.bad,[]⟩ [(1,.slice A1 ni c1),(2,.slice A2 no c2),(3,Vp b1),(11,Vs b4 n n),(32,.slice A4 n c4),(33,Vi (n:Int)),(34,Vi (k:Int)),(12,v)] [.row v 54 7 (zK kv),.row (Vs b4 n n) 38 3 (sX ov),.box b1 [.slice A n c,.slice B m d]] [] h5 a w∧Sees h2 h5∧(k≤n)∧(rw' (os.take k)=(ov,kv))) (fun k=>n - k) (0) ⟨h2,(Vz),List.replicate n zV,[],hJ.tw,Sees.refl _,Nat.zero_le _,hw0⟩ ?_
 clear hJ a w; rintro k a w ⟨h5,v,ov,kv,hJ,s6,hk,hv⟩
 refine rk' hJ false 6 [] [] (.k (.code [0,1,0,0,1,0,1,1,1,1,1]) [.seq [1,1,0,0,1,0,1,1,1,1,1]] [1,2,3,11,32,33,34,12] [(35,.bool (decide ((k:Int) < (n:Int))))]) ?_
 clear hJ a w; intro a w hJ
 rcases (by omega:k < n∨k=n) with hlt | hke
 ·obtain ⟨i,hoi⟩:∃ i,os[k]?=some i:=⟨_,List.getElem?_eq_getElem (by omega)⟩
  have hil:=hlt' i (List.mem_of_getElem? hoi)
  obtain ⟨g,hg⟩:∃ g,f.fields[i]?=some g:=⟨_,List.getElem?_eq_getElem (by omega)⟩
  obtain ⟨u,hu⟩:∃ u,vs[i]?=some u:=⟨_,List.getElem?_eq_getElem (by omega)⟩
  have hrow:=bQ hg hu
  have hga:∀ H,AllSrc H f.fields vs→IsArgs H g.src u:=fun H q=>AllArgs.get q (x:=g.src) (by rw [List.getElem?_map,hg]; rfl) hu
  obtain ⟨Au,nu,cu,rfl⟩:=(hga _ hs3).slice
  have hro1:(lV os)[k]?=some [.int .i64 (i:Int)]:=by rw [List.getElem?_map,hoi]; rfl
  have hl1:=hlen k (by omega)
  have hl2:=hkl k (by omega)
  have hl3':=hok' k (by omega)
  have hst:=hstep k i hoi g hg
  rw [hv] at hl1 hl2 hl3' hst
  simp only at hl1 hl2 hl3' hst
  rw [List.length_take] at hl2
  obtain ⟨x0,hx0⟩:∃ x,ov[i]?=some x:=⟨_,List.getElem?_eq_getElem (by omega)⟩
  have hx1:=vlRows_get hx0
  have hon':=fun sk H q1 q2 q3 q4=>hon g (.slice Au nu cu) sk kv H (List.mem_of_getElem? hg) q1 q2 q3 q4 (by omega) hl3'
  have hfr:(zK kv).length=kv.length:=List.length_map _
  generalize oneV g inp orc kv=xv at *
  have hx2:((sX ov).set i [.int .i64 xv.k,.int .i64 xv.n,.string xv.s])[i]?=some [.int .i64 xv.k,.int .i64 xv.n,.string xv.s]:=List.getElem?_set_self (by rw [List.length_map]; omega)
  refine kY hJ (t:=decide ((k:Int) < (n:Int))) (decide_eq_true (by omega)) ?_
  refine rk' hJ false 6 [] [] (.k (.ops [0,0,0,1,1,0,0,1,0,1,1,1,1,1] 0) [.seq [1,0,0,1,1,0,0,1,0,1,1,1,1,1],.block 1,.seq [1,1,1,0,0,1,0,1,1,1,1,1]] [1,2,3,11,32,33,34,12] []) ?_
  clear hJ a w; intro a w hJ
  obtain ⟨b7,o8,rfl,-,c9⟩:=RS.row hro (hro1)
  replace hJ:=hJ.fact (c9.sees s6)
  refine rk' hJ false 12 [.ix b7 o8 n c4 k,.f 0 0,.b 2 0] [] (.k (.ops [0,1,0,0,1,1,0,0,1,0,1,1,1,1,1] 5) [.seq [1,1,0,0,1,1,0,0,1,0,1,1,1,1,1],.block 1,.seq [1,1,1,0,0,1,0,1,1,1,1,1]] [1,2,3,11,32,33,34,12] [(14,Vi (i:Int)),(38,Vs b4 n n),(39,Vi (i:Int)),(41,.slice A n c),(42,Vi (i:Int))]) (ho:=And.intro (by first | omega | (simp; omega)) (trivial)) ?_
  clear hJ a w; intro a w hJ
  obtain ⟨b10,o11,rfl,-,c12⟩:=RS.row hr3 (hrow)
  replace hJ:=hJ.fact (c12.sees (s3.trans s6))
  refine rk' hJ false 5 [.ix b10 o11 n c i,.f 0 0] [] (.k (.ops [0,1,0,0,1,1,0,0,1,0,1,1,1,1,1] 10) [.seq [1,1,0,0,1,1,0,0,1,0,1,1,1,1,1],.block 1,.seq [1,1,1,0,0,1,0,1,1,1,1,1]] [1,2,3,11,32,33,34,12,14,38,39] [(44,.agg #[.string g.name,Vi g.kind,Vi g.ty,Vi g.src.op,Vi g.src.k,Vi g.src.n,.string g.src.s,.string g.src.nm,.slice Au nu cu]),(45,.slice A1 ni c1),(46,.slice A2 no c2),(47,v)]) (ho:=And.intro (by first | omega | (simp; omega)) (trivial)) ?_
  clear hJ a w; intro a w hJ
  refine x_callq hJ 48 (hon' _ _ (hga _ (hs3.sees (s3.trans (s6.trans hJ.j.seesQ)))) (hi.sees (s3.trans (s6.trans hJ.j.seesQ))) (ho.sees (s3.trans (s6.trans hJ.j.seesQ))) (hJ.j.rowQ (v:=v) (e:=54) (k:=7) (l:=zK kv) 0 rfl)) (fun _=>by kernel_rfl) ?_; clear hJ a w; intro h13 a w s14 hJ
  refine rk' hJ false 1 [.ix b4 0 n n i] [] (.k (.ops [0,1,0,0,1,1,0,0,1,0,1,1,1,1,1] 12) [.seq [1,1,0,0,1,1,0,0,1,0,1,1,1,1,1],.block 1,.seq [1,1,1,0,0,1,0,1,1,1,1,1]] [1,2,3,11,32,33,34,12,14,48] [(49,.pointer (some ⟨b4,0 + i * 3,none⟩))]) (ho:=And.intro (by first | omega | (simp; omega)) (trivial)) ?_
  clear hJ a w; intro a w hJ
  refine x_rowset hJ 1 i 0 (g:=b4) (m:=n) (cap:=n) (kk:=3) (e:=38) (l:=sX ov) (r:=[Vi x0.k,Vi x0.n,.string x0.s]) (t:=38) (x:=(.tmp 49)) (y:=(.tmp 48)) (u:=.agg #[Vi xv.k,Vi xv.n,.string xv.s]) (by kernel_rfl) (by kernel_rfl) (by kernel_rfl) (by kernel_rfl) (by kernel_rfl) (hx1) (by kernel_rfl) ?_; clear hJ a w; intro a w hJ
  replace hJ:K ⟨66,h.w,h.bad,[]⟩ [(1,.slice A1 ni c1),(2,.slice A2 no c2),(3,Vp b1),(11,Vs b4 n n),(32,.slice (some ⟨b7,o8,none⟩) n c4),(33,Vi (n:Int)),(34,Vi (k:Int)),(12,v),(14,Vi (i:Int)),(48,.agg #[Vi xv.k,Vi xv.n,.string xv.s]),(49,.pointer (some ⟨b4,0 + i * 3,none⟩))] [.row v 54 7 (zK kv),.row (Vs b4 n n) 38 3 ((sX ov).set i [Vi xv.k,Vi xv.n,.string xv.s]),.box b1 [.slice (some ⟨b10,o11,none⟩) n c,.slice B m d]] [(b10,o11 + i * 9,[.string g.name,Vi g.kind,Vi g.ty,Vi g.src.op,Vi g.src.k,Vi g.src.n,.string g.src.s,.string g.src.nm,.slice Au nu cu]),(b7,o8 + k * 1,[Vi (i:Int)])] h13 a w:=hJ.tw
  refine rx' hJ false 2 [] [] (.ok (.code [1,1,0,0,1,1,0,0,1,0,1,1,1,1,1]) [.block 1,.seq [1,1,1,0,0,1,0,1,1,1,1,1]] [(1,.slice A1 ni c1),(2,.slice A2 no c2),(3,Vp b1),(11,Vs b4 n n),(32,.slice (some ⟨b7,o8,none⟩) n c4),(33,Vi (n:Int)),(34,Vi (k:Int)),(12,v),(14,Vi (i:Int))] [.row v 54 7 (zK kv),.row (Vs b4 n n) 38 3 ((sX ov).set i [Vi xv.k,Vi xv.n,.string xv.s]),.box b1 [.slice (some ⟨b10,o11,none⟩) n c,.slice B m d]] [(b10,o11 + i * 9,[.string g.name,Vi g.kind,Vi g.ty,Vi g.src.op,Vi g.src.k,Vi g.src.n,.string g.src.s,.string g.src.nm,.slice Au nu cu]),(b7,o8 + k * 1,[Vi (i:Int)])]) (fun _=>by kernel_rfl) ?_
  clear hJ a w; intro a w hJ
  have c15:=RS.cell hr3 (hrow)
  replace hJ:=hJ.fact (c15.sees (s3.trans (s6.trans s14)))
  let R:Reg:=⟨⟨66,h.w,h.bad,[]⟩,[(0,50,fun gh=>v),(1,51,fun gh=>Vp b1),(2,52,fun gh=>.slice (some ⟨b10,o11,none⟩) n c),(3,53,fun gh=>Vi (i:Int)),(4,54,fun gh=>.pointer (some ⟨b10,o11 + i * 9,none⟩)),(5,55,fun gh=>.pointer (some ⟨b10,o11 + i * 9,none⟩)),(6,56,fun gh=>.string g.name),(7,57,fun gh=>Vs b4 n n),(8,58,fun gh=>Vi (i:Int)),(9,59,fun gh=>.pointer (some ⟨b4,0 + i * 3,none⟩)),(10,60,fun gh=>.agg #[Vi xv.k,Vi xv.n,.string xv.s]),(11,61,fun gh=>.agg #[.string g.name,Vi 0,Vi 0,Ve,Vi xv.k,Vi xv.n,.string xv.s]),(12,62,fun gh=>.slice (some ⟨(zJ (gh 12)),0,none⟩) 1 1),(13,63,fun gh=>.slice (sA (gh 13)) (sN (gh 13)) (sC (gh 13))),(14,12,fun gh=>.slice (sA (gh 13)) (sN (gh 13)) (sC (gh 13)))],[(1,.slice A1 ni c1),(2,.slice A2 no c2),(3,Vp b1),(11,Vs b4 n n),(32,.slice (some ⟨b7,o8,none⟩) n c4),(33,Vi (n:Int)),(34,Vi (k:Int)),(12,v),(14,Vi (i:Int))],[⟨some (.row v 54 7 (zK kv)),[(13,fun gh=>.row (.slice (sA (gh 13)) (sN (gh 13)) (sC (gh 13))) 54 7 ((zK kv)++[[.string g.name,Vi 0,Vi 0,Ve,Vi xv.k,Vi xv.n,.string xv.s]]))]⟩,⟨some (.row (Vs b4 n n) 38 3 ((sX ov).set i [Vi xv.k,Vi xv.n,.string xv.s])),[]⟩,⟨some (.box b1 [.slice (some ⟨b10,o11,none⟩) n c,.slice B m d]),[]⟩],[(12,fun gh hh=>Cells hh (zJ (gh 12)) 0 [.string g.name,Vi 0,Vi 0,Ve,Vi xv.k,Vi xv.n,.string xv.s])],[[],[],[1],[],[1,2,3],[1,2,3,4],[1,2,3,4,5],[],[],[7,8],[7,8,9],[1,2,3,4,5,6,7,8,9,10],[1,2,3,4,5,6,7,8,9,10,11],[0,1,2,3,4,5,6,7,8,9,10,11,12],[0,1,2,3,4,5,6,7,8,9,10,11,12,13]],h13⟩
  have hmono:∀ zq∈R.F,∀ zx zh zi,Sees zh zi→zq.2 zx zh→zq.2 zx zi:=eV (fun _ _ _ s c=>c.sees s) (lJ)
  refine iY (by kernel_rfl) R hJ 15 [.pu,.pu,.ld 2 0,.pu,.cl,.pu,.lf 0 0,.pu,.pu,.cl,.cl,.pu,.cl,.cl,.pu] (by kernel_rfl) hmono (fun _ _ _=>by kernel_rfl) (fun hT hA=>?_) ?_
  ·clear hJ
   refine And.intro (pW hT hA 54 (fun gh=>.pointer (some ⟨b10,o11 + i * 9,none⟩)) [2,3] 4 (fun gh w=>fX (t:=23) (x:=(.tmp 52)) (y:=(.tmp 53)) (b:=b10) (off:=o11) (n:=n) (cap:=c) (k:=i) (e:=43) (kk:=9) (by kernel_rfl) (by kernel_rfl) (by kernel_rfl) (by first | omega | (simp; omega)) Tryz.underlying23 (by kernel_rfl))) ?_
   refine And.intro (pW hT hA 59 (fun gh=>.pointer (some ⟨b4,0 + i * 3,none⟩)) [7,8] 9 (fun gh w=>fX (t:=32) (x:=(.tmp 57)) (y:=(.tmp 58)) (b:=b4) (off:=0) (n:=n) (cap:=n) (k:=i) (e:=38) (kk:=3) (by kernel_rfl) (by kernel_rfl) (by kernel_rfl) (by first | omega | (simp; omega)) Tryz.underlying32 (by kernel_rfl))) ?_
   refine And.intro (r_rowget hT hA 60 (fun gh=>.agg #[Vi xv.k,Vi xv.n,.string xv.s]) [9] 10 (by kernel_rfl) (by kernel_rfl) (by kernel_rfl) (fun _=>by kernel_rfl) 1 ⟨some (.row (Vs b4 n n) 38 3 ((sX ov).set i [Vi xv.k,Vi xv.n,.string xv.s])),[]⟩ (by kernel_rfl) (by kernel_rfl) b4 n n 3 38 ((sX ov).set i [Vi xv.k,Vi xv.n,.string xv.s]) (fun _=>by kernel_rfl) i 0 (r:=[Vi xv.k,Vi xv.n,.string xv.s]) (hx2) 38 (.tmp 59) (by kernel_rfl) (fun _=>by kernel_rfl) (fun _=>by kernel_rfl)) ?_
   refine And.intro (r_fact hT hA hmono ⟨fun _ _=>by kernel_rfl,fun _ _=>by kernel_rfl,fun _ _=>by kernel_rfl⟩ 62 (fun g=>Vs g 1 1) [11] 12 (by kernel_rfl) (by kernel_rfl) (fun _=>by kernel_rfl) (fun gh=>[.string g.name,Vi 0,Vi 0,Ve,Vi xv.k,Vi xv.n,.string xv.s]) 54 (fun _ _=>by kernel_rfl) (fun gh zb zH zc zj zq zhq zhe=>own_fact (i:=12) (k:=0) (f:=fun gh hh=>Cells hh (zJ (gh 12)) 0 [.string g.name,Vi 0,Vi 0,Ve,Vi xv.k,Vi xv.n,.string xv.s]) (by kernel_rfl) (by kernel_rfl) zc zj zq zhq zhe)) ?_
   refine And.intro (nW hT hA hmono ⟨fun _ _=>by kernel_rfl,fun _ _=>by kernel_rfl,fun _ _=>by kernel_rfl⟩ 63 [0,12] 13 0 ⟨some (.row v 54 7 (zK kv)),[(13,fun gh=>.row (.slice (sA (gh 13)) (sN (gh 13)) (sC (gh 13))) 54 7 ((zK kv)++[[.string g.name,Vi 0,Vi 0,Ve,Vi xv.k,Vi xv.n,.string xv.s]]))]⟩ (fun gh=>v) 28 54 7 (fun gh=>zK kv) (fun gh=>[[.string g.name,Vi 0,Vi 0,Ve,Vi xv.k,Vi xv.n,.string xv.s]]) (.tmp 50) (.tmp 62) (fun gh=>(zJ (gh 12))) 1 1 0 12 (fun gh hh=>Cells hh (zJ (gh 12)) 0 [.string g.name,Vi 0,Vi 0,Ve,Vi xv.k,Vi xv.n,.string xv.s]) (fun _ _ c=>c) Tryz.underlying28 (zv:=.agg #[Ve,Vi 0,Vi 0,Ve,Vi 0,Vi 0,Ve]) (bytes:=80) (fun _=>by constructor <;> (simp; omega))) ?_
   trivial
  clear hJ a w; intro gh h18 a w sR hJ1 hF; have s19:Sees h13 h18:=sR; clear sR
  have hJ:K ⟨66,h.w,h.bad,[]⟩ [(1,.slice A1 ni c1),(2,.slice A2 no c2),(3,Vp b1),(11,Vs b4 n n),(32,.slice (some ⟨b7,o8,none⟩) n c4),(33,Vi (n:Int)),(34,Vi (k:Int)),(12,.slice (sA (gh 13)) (sN (gh 13)) (sC (gh 13)))] [.row (.slice (sA (gh 13)) (sN (gh 13)) (sC (gh 13))) 54 7 ((zK kv)++[[.string g.name,Vi 0,Vi 0,Ve,Vi xv.k,Vi xv.n,.string xv.s]]),.row (Vs b4 n n) 38 3 ((sX ov).set i [Vi xv.k,Vi xv.n,.string xv.s]),.box b1 [.slice (some ⟨b10,o11,none⟩) n c,.slice B m d]] [(b10,o11 + i * 9,[.string g.name,Vi g.kind,Vi g.ty,Vi g.src.op,Vi g.src.k,Vi g.src.n,.string g.src.s,.string g.src.nm,.slice Au nu cu]),(b10,o11 + i * 9,[.string g.name,Vi g.kind,Vi g.ty,Vi g.src.op,Vi g.src.k,Vi g.src.n,.string g.src.s,.string g.src.nm,.slice Au nu cu]),(b7,o8 + k * 1,[Vi (i:Int)])] h18 a w:=hJ1.tw
  have f16:Cells h18 (zJ (gh 12)) 0 [.string g.name,Vi 0,Vi 0,Ve,Vi xv.k,Vi xv.n,.string xv.s]:=Reg.fact (i:=12) (f:=fun gh hh=>Cells hh (zJ (gh 12)) 0 [.string g.name,Vi 0,Vi 0,Ve,Vi xv.k,Vi xv.n,.string xv.s]) hF 0 (by kernel_rfl)
  replace hJ:=hJ.fact f16
  clear hJ1 hF hmono R
  generalize zJ (gh 12)=b17 at *
  generalize gh 13=v63 at *
  clear gh
  refine rk' hJ false 6 [] [(64,Vi (IntKind.i64.wrap ((k:Int) + 1)),Vi ((k:Int) + 1))] (.k (.out .normal) [] [1,2,3,11,32,33,12] [(34,Vi ((k:Int) + 1))]) (hc:=And.intro (kJ (by omega) (by omega)) (trivial)) ?_
  clear hJ a w; intro a w hJ
  exact jY ⟨k + 1,⟨h18,.slice (sA v63) (sN v63) (sC v63),ov.set i xv,kv++[(g.name,xv)],(hJ.tof [] (F':=[]) (by kernel_rfl)).to (by kernel_rfl) (by rw [fcRows_snoc,← vlRows_set]) rfl,(s6.trans (s14.trans s19)),by omega,hst⟩,by omega⟩
 ·skip
  have hta:os.take k=os:=by rw [hke,← hol,List.take_length]
  rw [hta] at hv
  refine aY hJ (t:=decide ((k:Int) < (n:Int))) (decide_eq_false (by omega)) ?_
  refine rk' hJ false 2 [] [] (.k (.out (.exit 0)) [] [11] []) ?_
  clear hJ a w; intro a w hJ
  refine dY rfl ?_
  refine rk' hJ false 10 [] [] (.k (.out .ret) [] [] [(6,Vs b4 n n),(7,Vi 0)]) ?_
  clear hJ a w; intro a w hJ
  have fo:=hJ.rowOwn (v:=Vs b4 n n) (e:=38) (kk:=3) (l:=sX ov) 1 (by kernel_rfl)
  refine zX (hQ [Vs b4 n n,Vi 0] _ [] hJ (.rtm hJ.j (.rtm hJ.j .nil)) (fJ _) rfl ?_).1
  exact ⟨_,_,fo,rfl,⟨_,_,rfl⟩,by rw [hv]⟩
theorem whAll_any (f:Fm) (ρ:List Int) (lv:Nat→Nat) (A:Option Addr) (n c:Nat) (B:Option Addr) (m d:Nat) (inp:Env) (si so:Value) (orc:List Aw) (h:Vw) (hok:OkFm f ρ lv) (hf:IsForm h (.slice A n c) (.slice B m d) f) (hn:n=f.fields.length) (h1:1≤n)
  (hi:RS h 7 si (zK inp)) (li:inp.length≤1000) (ki:∀ p∈inp,p.2.known) (ti:vK f.fields [] inp=0) (ho:RS h 7 so (vJ orc)) (lo:orc.length≤1000) (ko:∀ p∈orc,OkV p.has)
  (hO:∀ H,IsForm H (.slice A n c) (.slice B m d) f→RS H 7 so (vJ orc)→C0 Tryz.prog 91 #[.agg #[.slice A n c,.slice B m d],so] H (fun r _=>r=.int .i64 0)) :
  C0 Tryz.prog 18 #[.agg #[.slice A n c,.slice B m d],si,so] h (fun r h'=>∃ A' c',r=.tuple #[.slice A' n c',.int .i64 0]∧RS h' 3 (.slice A' n c') (sX (allW f.fields inp orc (aW ρ n)))):=by
 intro a1 a2 a3 a4
 refine (whAll_own f ρ lv A n c B m d inp si so orc h hok hf hn h1 hi li ki ti ho lo ko hO a1 a2 a3 a4).mono ?_
 rintro e w' ⟨v,Bo,g1,g2,g3,g4,u,l,g5,rfl,⟨A',c',rfl⟩,rfl⟩
 exact ⟨_,Bo,g1,g2,g3,g4,A',c',rfl,row_rs g5 (fun b hb hm=>by have:=a4 b hm; have:=(g5.1.lt b hb).1; omega)⟩
end Go.Proofs.YthckljafinhepaaGreat
namespace Go.Proofs.YthckljafinhepaaGreat
open Go.RowKit
set_option linter.unusedVariables false
abbrev ke1:Env:=[(⟨#[97]⟩,⟨1,4,⟨#[]⟩⟩)]
theorem ke1_known:∀ p∈ke1,p.2.known:=fun p hp=>by rw [List.mem_singleton.1 hp]; exact .inl ⟨rfl,by unfold Lim; decide,rfl⟩
theorem ke1_told:vK smallF.fields [] ke1=0:=by
 unfold vK
 have e:toldE smallF.fields ⟨#[97]⟩ 1=0:=by
  unfold toldE
  rw [gQ (fs:=smallF.fields) (by decide) (i:=1) (f:=⟨⟨#[97]⟩,1,1,zE⟩) rfl,if_neg (by omega)]; rfl
 rw [if_pos (by exact e)]; rfl
theorem small_sol {v:List Vl} (h:Sol smallF.fields ke1 [] v):∃ y z,v=[⟨1,5,⟨#[]⟩⟩,y,⟨4,0,z⟩]:=by
 have hl:=h.len
 obtain ⟨x0,x1,x2,rfl⟩:∃ a b c,v=[a,b,c]:=by
  match v,hl with
  | [a,b,c],_=>exact ⟨a,b,c,rfl⟩
 have e1:=h.at_ 1 ⟨⟨#[97]⟩,1,1,zE⟩ x1 rfl rfl
 have e1:x1=⟨1,4,⟨#[]⟩⟩:=e1.trans (by unfold oneV; rw [if_pos rfl,tellV,if_pos (by rw [tl_dec]; decide)])
 have e0:=h.at_ 0 ⟨⟨#[98]⟩,2,1,smallX⟩ x0 rfl rfl
 subst e1
 have e0:x0=⟨1,5,⟨#[]⟩⟩:=e0.trans (by kernel_rfl)
 have e2:=h.at_ 2 ⟨⟨#[99]⟩,3,3,smallB⟩ x2 rfl rfl
 subst e0
 have e2:x2=pdV:=e2.trans (by kernel_rfl)
 exact ⟨_,_,by rw [e2]⟩
theorem known_any (h:Vw):C0 Tryz.prog 19 #[] h (fun r _=>r=.bool true):=by
 have hSm:OkFm smallF _ _:=⟨small_ok,small_okG,small_ranked⟩
 have hA:=fun H A c B d si q1 q2=>whAll_any smallF _ _ A 3 c B 2 d ke1 si (.slice none 0 0) [] H hSm q1 rfl (by omega) q2 (by decide) ke1_known ke1_told (RS.nil H 7) (by decide) (fun p hp=>by cases hp) (fun H' _ q=>oracle_nil _ _ _ _ _ _ _ H' q)
 have hs:=(all_sol small_ok ke1_known (orc:=[]) (fun p hp=>by cases hp) (ordL_ordd small_ranked (by decide))).1
 obtain ⟨y,z,hv⟩:=small_sol hs
 have hv:allW smallF.fields ke1 [] (aW [1,0,2] 3)=_:=hv
 rw [hv] at hA
 have hone:∀ (H:Vw) (b:Nat),Cells H b 0 [.string ⟨#[97]⟩,.int .i64 0,.int .i64 0,.string ⟨#[]⟩,.int .i64 1,.int .i64 4,.string ⟨#[]⟩]→RS H 7 (.slice (some ⟨b,0,none⟩) 1 1) (zK ke1):=fun H b hc =>
  rs_cells (k:=7) (zK ke1) (fun r hr=>by rw [List.mem_singleton.1 hr]; rfl) (by decide) hc
 refine yX Tryz.func19 (c:=Tryz.f19.body.getD .skip) (N:=32) ?_
 intro hbx hbad Q hQ a w hJ
 replace hJ:K ⟨32,h.w,h.bad,[]⟩ [] [] [] h a w:=hJ.tw
 have hr0:(sX [⟨1,5,⟨#[]⟩⟩,y,⟨4,0,z⟩])[0]?=some [.int .i64 1,.int .i64 5,.string ⟨#[]⟩]:=rfl
 have hr2:(sX [⟨1,5,⟨#[]⟩⟩,y,⟨4,0,z⟩])[2]?=some [.int .i64 4,.int .i64 0,.string z]:=rfl
 refine rx' hJ false 7 [] [] (.ok (.ops [0,1] 0) [.seq [1,1]] [] [] []) (fun _=>by kernel_rfl) ?_
 clear hJ a w; intro a w hJ
 refine wX hJ 4 (small_any _) (fun _=>by kernel_rfl) ?_; clear hJ a w; rintro _ h1 a w s2 ⟨A,c,B,d,rfl,hf⟩ hJ
 refine rk' hJ true 3 [.fix] [] (.new fun bone=>.m (.ops [0,1] 4) [.seq [1,1]] [4] [(7,Vs bone 1 1)] [] [(bone,0,[.string ⟨#[97]⟩,Vi 0,Vi 0,Ve,Vi 1,Vi 4,Ve])]) (hr:=fun bone _=>by kernel_rfl) ?_
 clear hJ a w; intro bone h3 a w s4 hJ
 have one:Cells h3 bone 0 [.string ⟨#[97]⟩,Vi 0,Vi 0,Ve,Vi 1,Vi 4,Ve]:=hJ.f _ (List.mem_of_getElem? (i:=0) rfl)
 refine wX hJ 8 (hA _ _ _ _ _ _ (hf.sees (s4.trans hJ.j.sees)) (hone _ _ (one.sees hJ.j.sees))) (fun _=>by kernel_rfl) ?_; clear hJ a w; rintro _ h5 a w s6 ⟨A',c',rfl,hr⟩ hJ
 refine rk' hJ false 18 [] [] (.k (.ops [0,1,1] 9) [.seq [1,1,1]] [] [(1,.slice A' 3 c'),(18,.bool true),(19,.slice A' 3 c')]) ?_
 clear hJ a w; intro a w hJ
 obtain ⟨b7,o8,rfl,-,c9⟩:=RS.row hr (hr0)
 replace hJ:=hJ.fact (c9.sees (Sees.refl _))
 refine rk' hJ false 7 [.ix b7 o8 3 c' 0,.f 0 1] [] (.k (.ops [0,1,1] 16) [.seq [1,1,1]] [] [(25,.bool true),(26,.slice (some ⟨b7,o8,none⟩) 3 c')]) (ho:=And.intro (by first | omega | (simp; omega)) (trivial)) ?_
 clear hJ a w; intro a w hJ
 have c10:=RS.cell hr (hr2)
 replace hJ:=hJ.fact (c10.sees (Sees.refl _))
 refine rk' hJ false 9 [.ix b7 o8 3 c' 2,.f 0 0] [] (.k (.out .ret) [] [] [(0,.bool true)]) (ho:=And.intro (by first | omega | (simp; omega)) (trivial)) ?_
 clear hJ a w; intro a w hJ
 refine zX (hQ [.bool true] _ [] hJ (.rtm hJ.j .nil) (fJ _) rfl ?_).1
 exact rfl
end Go.Proofs.YthckljafinhepaaGreat
namespace Go.Proofs.YthckljafinhepaaGreat
open Go.RowKit
set_option linter.unusedVariables false
theorem any_name {pre:Env} {p:ByteArray × Vl}:pre.any (fun q=>q.1.toList == p.1.toList)=true↔p.1∈pre.map (·.1):=by
 rw [List.any_eq_true,List.mem_map]
 constructor
 ·rintro ⟨q,hq,e⟩
  rw [tl_dec] at e
  exact ⟨q,hq,of_decide_eq_true e⟩
 ·rintro ⟨q,hq,e⟩
  exact ⟨q,hq,by rw [tl_dec]; exact decide_eq_true e⟩
theorem factsV_ok (fs:List Fd):∀ (rest pre:Env),(∀ p∈rest,toldE fs p.1 p.2.k=0)→((pre++rest).map (·.1)).Nodup→vK fs pre rest=0
 | [],_,_,_=>rfl
 | p :: rest,pre,h,hd=>by
  have h0:=h p (by simp)
  have hd':(((pre++[p])++rest).map (·.1)).Nodup:=by simpa using hd
  have hn:¬ pre.any (fun q=>q.1.toList == p.1.toList)=true:=fun q=>by
   rw [any_name] at q
   rw [List.map_append,List.nodup_append] at hd
   exact hd.2.2 _ q p.1 (by simp) rfl
  unfold vK
  rw [if_pos h0,if_neg hn]
  exact factsV_ok fs rest (pre++[p]) (fun q hq=>h q (by simp [hq])) hd'
theorem inp_told {fs:List Fd} {l:List RawD} (hd:(fs.map (fun f:Fd=>f.name)).Nodup):∀ p∈inpE fs l,toldE fs p.1 p.2.k=0:=fun p hp=>by
 obtain ⟨i,f,r,-,h2,h3,rfl⟩:=inpF_each fs.length (Nat.le_refl _) p hp
 unfold toldE
 rw [gQ hd h2,if_neg (by omega),Int.toNat_natCast,h2]
 simp only
 rw [if_pos h3,if_pos (show (valR f.ty r).k=f.ty from rfl)]
theorem inp_known {fs:List Fd} {l:List RawD} (ht:∀ f∈fs,1≤f.ty∧f.ty≤3):∀ p∈inpE fs l,p.2.known:=fun p hp=>by
 obtain ⟨i,f,r,-,h2,h3,rfl⟩:=inpF_each fs.length (Nat.le_refl _) p hp
 obtain ⟨a,b⟩:=ht f (List.mem_of_getElem? h2)
 exact valR_known _ _ a b
end Go.Proofs.YthckljafinhepaaGreat
namespace Go.Proofs.YthckljafinhepaaGreat
open Go.RowKit
set_option linter.unusedVariables false
theorem form_okFm (l:List RawD):OkFm (kQ l) (rhoL (nV (kQ l).fields)) (lvF l):=⟨form_okFs l _ (mQ l) (fun f=>Iff.rfl) (by have:=lQ l; have:=iV l; omega),form_okGs l,form_ranked l⟩
theorem form_ty (l:List RawD):∀ f∈(kQ l).fields,1≤f.ty∧f.ty≤3:=fun f hf=>by obtain ⟨_,_,_,_,q,_⟩:=form_each hf; exact q
def allF (l m:List RawD) (orc:List Aw):List Vl:=allW (kQ l).fields (inpE (kQ l).fields m) orc (aW (rhoL (nV (kQ l).fields)) (kQ l).fields.length)
structure InpOk (fs:List Fd) (env:Env):Prop where
 known:∀ p∈env,p.2.known
 told:vK fs [] env=0
 few:env.length≤fs.length
 once:(env.map (·.1)).Nodup
theorem inp_ok (l m:List RawD):InpOk (kQ l).fields (inpE (kQ l).fields m):=by
 have k0:=inp_told (l:=m) (mQ l)
 have k2:((inpE (kQ l).fields m).map (·.1)).Nodup:=inpF_nodup (l:=m) (mQ l) (kQ l).fields.length (Nat.le_refl _)
 exact ⟨inp_known (l:=m) (form_ty l),factsV_ok _ _ [] k0 k2,(inpF_le (kQ l).fields m (kQ l).fields.length).2,k2⟩
theorem allF_sol (l m:List RawD) {orc:List Aw} (ho:∀ p∈orc,OkV p.has):Sol (kQ l).fields (inpE (kQ l).fields m) orc (allF l m orc)∧∀ x∈allF l m orc,OkV x :=
 all_sol (form_okFm l).fields (inp_ok l m).known ho (ordL_ordd (form_ranked l) (by have:=lQ l; have:=iV l; omega))
theorem all_form (l m:List RawD) (orc:List Aw) (A:Option Addr) (c:Nat) (B:Option Addr) (d:Nat) (si so:Value) (h:Vw) (hf:IsForm h (.slice A (kQ l).fields.length c) (.slice B (kQ l).pages.length d) (kQ l)) (hi:RS h 7 si (zK (inpE (kQ l).fields m)))
  (ho:RS h 7 so (vJ orc)) (lo:orc.length≤1000) (ko:∀ p∈orc,OkV p.has)
  (hO:∀ H,IsForm H (.slice A (kQ l).fields.length c) (.slice B (kQ l).pages.length d) (kQ l)→RS H 7 so (vJ orc)→C0 Tryz.prog 91 #[.agg #[.slice A (kQ l).fields.length c,.slice B (kQ l).pages.length d],so] H (fun r _=>r=.int .i64 0)) :
  C0 Tryz.prog 18 #[.agg #[.slice A (kQ l).fields.length c,.slice B (kQ l).pages.length d],si,so] h (fun r h'=>∃ A' c',r=.tuple #[.slice A' (kQ l).fields.length c',.int .i64 0]∧RS h' 3 (.slice A' (kQ l).fields.length c') (sX (allF l m orc))):=by
 have hn:=iV l
 have hl:=lQ l
 have hI:=inp_ok l m
 have:=hI.few
 exact whAll_any (kQ l) _ _ A _ c B _ d _ si so orc h (form_okFm l) hf rfl (by omega) hi (by omega) hI.known hI.told ho lo ko hO
end Go.Proofs.YthckljafinhepaaGreat
namespace Go.Proofs.YthckljafinhepaaGreat
open Go.RowKit
set_option linter.unusedVariables false
theorem CRow.c0 {P:Program} {f:FuncId} {args:Array Value} {h:Vw} {e:TypeId} {k:Nat} {R:Value→List (List Value)→Prop} (hc:CRow P f args h e k R):C0 P f args h (fun v h'=>∃ l u,v=.slice (sA u) (sN u) (sC u)∧RS h' k (.slice (sA u) (sN u) (sC u)) l∧R v l):=by
 intro a1 a2 a3 a4
 refine (hc a1 a2 a3 a4).mono ?_
 rintro e w' ⟨v,Bo,h1,h2,h3,h4,l,h5,h6⟩
 obtain ⟨A,c,rfl,-,-⟩:=yW h5
 exact ⟨_,Bo,h1,h2,h3,h4,l,.slice A l.length c,rfl,row_rs h5 (fun b hb hm=>by have:=a4 b hm; have:=(h5.1.lt b hb).1; omega),h6⟩
end Go.Proofs.YthckljafinhepaaGreat
