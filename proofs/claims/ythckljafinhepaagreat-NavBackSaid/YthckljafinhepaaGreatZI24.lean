/-
  The contracts of eval's machine: what formulas are.
-/
import Derived.Test.YthckljafinhepaaGreatZI23
import Derived.Test.YthckljafinhepaaGreatZI21
set_option maxRecDepth 100000
namespace Go.Proofs.YthckljafinhepaaGreat
open Go.RowKit
abbrev mK (env:Env):List (Value × Value):=nX (env.map fun p=>(p.1,p.2.val))
theorem sget_env (s:ByteArray):∀ env:Env,sget s (env.map fun p=>(p.1,p.2.val))=(env.get s).map Vl.val
 | []=>rfl
 | (k,v) :: l=>by
  simp only [List.map_cons]
  unfold sget Env.get
  cases s == k
  ·simp only [Bool.false_eq_true,if_false]; exact sget_env s l
  ·rfl
def EnvOk (env:Env):Prop:=∀ s v,env.get s=some v→OkV v
theorem arity_pos {op:Int} (h1:3≤op) (h2:op≤18):1≤arity op∧arity op≤3:=by
 unfold arity
 rw [if_neg (by omega)]
 repeat' split
 all_goals omega
theorem applyV_ok {op:Int} {l:List Vl} (hk:∀ v∈l,v.known) (hl:1≤l.length) (hl2:op=10∨(5≤op∧op≤9)→2≤l.length) (h3:3≤op) (h18:op≤18) (hx:op≠15∧op≠16∧op≠17):OkV (oJ op l):=by
 have h0:hdV l 0∈l:=by
  cases l with
  | nil=>simp at hl
  | cons x l=>exact List.mem_cons_self
 have h1:2≤l.length→hdV l 1∈l:=fun h=>by
  cases l with
  | nil=>simp at h
  | cons x l =>
   cases l with
   | nil=>simp at h
   | cons y l=>simp [hdV]
 unfold oJ
 split
 ·split
  ·exact ok_truth _
  ·exact rV (by omega) (by omega)
 ·split
  ·split
   ·exact ok_truth _
   ·exact rV (by omega) (by omega)
  ·split
   ·split
    ·rename_i hq
     have:=known_texts hk hq _ h0
     exact .inl (.inl ⟨rfl,by unfold Lim; simp only; omega,rfl⟩)
    ·exact rV (by omega) (by omega)
   ·split
    ·rename_i h10
     split
     ·rename_i hq
      have k0:=hk _ h0
      have k1:=hk _ (h1 (hl2 (.inl h10)))
      have e0:(hdV l 0).k=3:=by unfold vQ at hq; rw [List.all_eq_true] at hq; simpa using hq _ h0
      have e1:(hdV l 1).k=3:=by unfold vQ at hq; rw [List.all_eq_true] at hq; simpa using hq _ (h1 (hl2 (.inl h10)))
      generalize hdV l 0=x at *
      generalize hdV l 1=y at *
      unfold joinV
      split
      ·exact rV (by omega) (by omega)
      ·rename_i hc
       rcases k0 with g | g | g
       ·omega
       ·omega
       ·rcases k1 with q | q | q
        ·omega
        ·omega
        ·refine .inl (.inr (.inr ⟨rfl,rfl,by simp [ByteArray.size_append]; omega,fun i hi=>?_⟩))
         have hs:(x.s++y.s).size=x.s.size + y.s.size:=ByteArray.size_append ..
         have hi':i < x.s.size + y.s.size:=by rw [← hs]; exact hi
         show 32≤(x.s++y.s)[i].toNat∧_
         by_cases hlt:i < x.s.size
         ·rw [ByteArray.getElem_append_left hlt]; exact g.2.2.2 i hlt
         ·rw [ByteArray.getElem_append_right (by omega)]; exact q.2.2.2 _ (by omega)
     ·exact rV (by omega) (by omega)
    ·split
     ·split
      ·rename_i hq
       exact nrV_ok (by unfold Lim; omega) (xQ hk hq _ h0)
      ·exact rV (by omega) (by omega)
     ·split
      ·rename_i hq
       exact nrV_ok (xQ hk hq _ h0) (xQ hk hq _ (h1 (hl2 (.inr (by omega)))))
      ·exact rV (by omega) (by omega)
theorem lack_some {u:Vl}:∀ {l:List Vl} {p:Option Vl},zQ p l=some u→(∀ w,p=some w→w.k=4)→(u.k=5∨u.k=4)∧(p=some u∨u∈l)
 | [],p,h,hp=>by
  unfold zQ at h
  exact ⟨.inr (hp u h),.inl h⟩
 | v :: l,p,h,hp=>by
  unfold zQ at h
  split at h
  ·simp only [Option.some.injEq] at h; subst h; rename_i h5; exact ⟨.inl h5,.inr (by simp)⟩
  ·by_cases h4:v.k=4
   ·rw [if_pos h4] at h
    obtain ⟨h1,h2⟩:=lack_some h (fun w hw=>by simp only [Option.some.injEq] at hw; subst hw; exact h4)
    refine ⟨h1,.inr ?_⟩
    rcases h2 with h2 | h2
    ·simp only [Option.some.injEq] at h2; subst h2; simp
    ·simp [h2]
   ·rw [if_neg h4] at h
    obtain ⟨h1,h2⟩:=lack_some h hp
    exact ⟨h1,h2.imp id (fun k=>by simp [k])⟩
theorem lack_none:∀ {l:List Vl} {p:Option Vl},zQ p l=none→p=none∧∀ v∈l,v.k≠5∧v.k≠4
 | [],p,h=>⟨h,fun v hv=>by cases hv⟩
 | v :: l,p,h=>by
  unfold zQ at h
  split at h
  ·cases h
  ·rename_i h5
   obtain ⟨h1,h2⟩:=lack_none h
   by_cases h4:v.k=4
   ·rw [if_pos h4] at h1; cases h1
   ·rw [if_neg h4] at h1
    refine ⟨h1,fun u hu=>?_⟩
    rcases List.mem_cons.1 hu with rfl | hu
    ·exact ⟨h5,h4⟩
    ·exact h2 u hu
theorem firstV_ok {v:Vl} (h:OkV v):OkV (iQ v).1:=by
 unfold iQ
 split
 ·exact rV (by omega) (by omega)
 ·exact h
theorem boolV_ok {v:Vl} (h:OkV v):OkV (aK v):=by
 unfold aK
 split
 ·exact rV (by omega) (by omega)
 ·exact h
theorem hdV_mem {l:List Vl} {i:Nat} (h:i < l.length):hdV l i∈l:=by
 unfold hdV
 rw [List.getD_eq_getElem?_getD,List.getElem?_eq_getElem h]
 exact List.getElem_mem h
theorem evalE_ok {env:Env} (he:EnvOk env):∀ (m:Nat) (x:Ex),(szE x).1≤m→WfE x→OkV (nK env x)
 | 0,x,h,_=>by have:=szE_pos x; omega
 | m + 1,x,h,hw=>by
  have hsz:=szE_eq x
  rw [hsz] at h
  simp only at h
  have hl:∀ v∈oK env x.args,OkV v:=by
   intro v hv
   rw [pK] at hv
   obtain ⟨y,hy,rfl⟩:=List.mem_map.1 hv
   exact evalE_ok he m y (by have:=(szL_mem hy).1; omega) (hw.list.get hy)
  have hlen:(oK env x.args).length=x.args.length:=by rw [pK,List.length_map]
  rw [evalE_eq]
  rcases hw.top with ⟨h1,h2,h3,h4,h5⟩ | ⟨h1,h2,h3,h4,h5,h6⟩ | ⟨h1,h2,h3,h4,h5,h6,h7⟩
  ·rw [if_pos h1]; exact .inl h2
  ·rw [if_neg (by omega),if_pos h1]
   cases hg:env.get x.nm with
   | none=>exact rV (by omega) (by omega)
   | some v=>exact he _ _ hg
  ·rw [if_neg (by omega),if_neg (by omega)]
   have hap:=arity_pos h1 h2
   split
   ·rename_i hq
    have ha:arity x.op=2:=by unfold arity; rw [if_neg (by omega),if_neg (by omega),if_neg (by omega)]
    split
    ·exact firstV_ok (hl _ (hdV_mem (by omega)))
    ·exact boolV_ok (hl _ (hdV_mem (by omega)))
   ·split
    ·rename_i hq
     have ha:arity x.op=3:=by rw [hq]; rfl
     split
     ·exact firstV_ok (hl _ (hdV_mem (by omega)))
     ·split
      ·exact hl _ (hdV_mem (by omega))
      ·exact hl _ (hdV_mem (by omega))
    ·rename_i n1 n2
     cases hk:zQ none (oK env x.args) with
     | some u =>
      obtain ⟨-,g⟩:=lack_some hk (fun w hw=>by cases hw)
      rcases g with g | g
      ·cases g
      ·exact hl u g
     | none =>
      obtain ⟨-,g⟩:=lack_none hk
      refine applyV_ok (fun v hv=>ok_known (hl v hv) (g v hv).2 (g v hv).1) (by omega) (fun hq=>?_) h1 h2 ⟨by omega,by omega,by omega⟩
      have ha:arity x.op=2:=by
       unfold arity
       rw [if_neg (by omega),if_neg (by omega),if_neg (by omega)]
      omega
def OfAll (env:Env) (b:Nat) (l:List Ex):Prop:=∀ y∈l,∀ v h,IsArgs h y v→MapAt h b (mK env)→C0 Tryz.prog 89 #[.map (some b),.agg #[.int .i64 y.op,.int .i64 y.k,.int .i64 y.n,.string y.s,.string y.nm,v]] h (fun r _=>r=(nK env y).val)
theorem first_any (env:Env) (b:Nat) (x y:Ex) (sl:Value) (h:Vw) (hx:IsArgs h x sl) (hm:MapAt h b (mK env)) (hy:x.args[0]?=some y) (hof:OfAll env b x.args) (hok:OkV (nK env y)) :
  C0 Tryz.prog 110 #[.map (some b),.agg #[.int .i64 x.op,.int .i64 x.k,.int .i64 x.n,.string x.s,.string x.nm,sl]] h (fun r _=>r=.tuple #[(iQ (nK env y)).1.val,.bool (iQ (nK env y)).2]):=by
 obtain ⟨vs,hr,hvs⟩:=hx.form
 obtain ⟨A,c,rfl,-,-,-⟩:=hr.form
 have hvl:=hvs.len
 have hrl:=tK hvl
 have hlt:=(List.getElem?_eq_some_iff.1 hy).1
 rw [hrl] at hr ⊢
 have ho:=hof y (List.mem_of_getElem? hy)
 obtain ⟨u,hu⟩:∃ u,vs[0]?=some u:=⟨_,List.getElem?_eq_getElem (by omega)⟩
 have hyu:=AllArgs.get hvs hy hu
 obtain ⟨Au,nu,cu,rfl⟩:=hyu.slice
 have hrow:(sK x.args vs)[0]?=some (exRow y (.slice Au nu cu)):=by show (List.zipWith exRow _ _)[0]?=_; rw [List.getElem?_zipWith,hy,hu]
 have hk:=ok_kinds hok
 generalize x.args.length=len at *
 generalize nK env y=e at *
 obtain ⟨ek,en,es⟩:=e
 obtain rfl | rfl | rfl | rfl | rfl:ek=1∨ek=2∨ek=3∨ek=4∨ek=5:=by simp only at hk; omega
 ·refine yX Tryz.func110 (c:=Tryz.f110.body.getD .skip) (N:=31) ?_
  intro hbx hbad Q hQ a w hJ
  refine rx' hJ false 12 [.own,.own,.b 1 5] [] (.new fun b1=>.new fun b2=>.ok (.ops [0,1] 3) [.seq [1,1]] [(4,Vp b2),(7,.map (some b)),(9,.slice A len c)] [.box b2 [Vi 0,Vi 0,Ve],.box b1 [Vi x.op,Vi x.k,Vi x.n,.string x.s,.string x.nm,.slice A len c]] []) (fun b1 b2 _=>by kernel_rfl) ?_
  clear hJ a w; intro b1 b2 a w hJ
  obtain ⟨b3,o4,rfl,-,c5⟩:=RS.row hr (hrow)
  replace hJ:=hJ.fact (c5.sees (Sees.refl _))
  refine rk hJ false 35 [.ix b3 o4 len c 0,.f 0 0,.cl 89 #[.map (some b),.agg #[Vi y.op,Vi y.k,Vi y.n,.string y.s,.string y.nm,.slice Au nu cu]] (.agg #[Vi 1,Vi en,.string es]),.own,.b 0 0,.b 0 0,.b 0 0,.b 0 0,.cl 109 #[Vi 9] (.agg #[Vi 5,Vi 9,Ve]),.b 1 0] [] (.new fun b6=>.f (.out .ret) [] [4] [(5,.bool false)] [.box b6 [Vi 1,Vi en,.string es],.box b2 [Vi 5,Vi 9,Ve],.box b1 [Vi x.op,Vi x.k,Vi x.n,.string x.s,.string x.nm,.slice (some ⟨b3,o4,none⟩) len c]] [.o 0]) (And.intro (by first | omega | (simp; omega)) (And.intro (fun H sH=>ho _ _ (hyu.sees sH) (hm.sees sH)) (And.intro (fun H sH=>yK 9 _) (trivial)))) trivial (fun b6 _=>by kernel_rfl) ?_
  clear hJ a w; intro b6 a w hJ
  refine zX (hQ [.agg #[Vi 5,Vi 9,Ve],.bool false] _ [] hJ (.rcel hJ.j 1 (.rtm hJ.j .nil)) (fJ _) rfl ?_).1
  exact rfl
 ·refine yX Tryz.func110 (c:=Tryz.f110.body.getD .skip) (N:=31) ?_
  intro hbx hbad Q hQ a w hJ
  refine rx' hJ false 12 [.own,.own,.b 1 5] [] (.new fun b1=>.new fun b2=>.ok (.ops [0,1] 3) [.seq [1,1]] [(4,Vp b2),(7,.map (some b)),(9,.slice A len c)] [.box b2 [Vi 0,Vi 0,Ve],.box b1 [Vi x.op,Vi x.k,Vi x.n,.string x.s,.string x.nm,.slice A len c]] []) (fun b1 b2 _=>by kernel_rfl) ?_
  clear hJ a w; intro b1 b2 a w hJ
  obtain ⟨b3,o4,rfl,-,c5⟩:=RS.row hr (hrow)
  replace hJ:=hJ.fact (c5.sees (Sees.refl _))
  refine rk hJ false 29 [.ix b3 o4 len c 0,.f 0 0,.cl 89 #[.map (some b),.agg #[Vi y.op,Vi y.k,Vi y.n,.string y.s,.string y.nm,.slice Au nu cu]] (.agg #[Vi 2,Vi en,.string es]),.own,.b 0 0,.b 0 0] [] (.new fun b6=>.f (.code [0,1,1,1]) [.seq [1,1,1,1]] [4] [(6,Vp b6)] [.box b6 [Vi 2,Vi en,.string es],.box b2 [Vi 0,Vi 0,Ve],.box b1 [Vi x.op,Vi x.k,Vi x.n,.string x.s,.string x.nm,.slice (some ⟨b3,o4,none⟩) len c]] [.o 0]) (And.intro (by first | omega | (simp; omega)) (And.intro (fun H sH=>ho _ _ (hyu.sees sH) (hm.sees sH)) (trivial))) trivial (fun b6 _=>by kernel_rfl) ?_
  clear hJ a w; intro b6 a w hJ
  let R:Reg:=⟨⟨31,h.w,h.bad,[]⟩,[(0,27,fun gh=>.agg #[Vi 2,Vi en,.string es]),(1,28,fun gh=>Vp b6),(2,29,fun gh=>Vi 2),(3,30,fun gh=>.bool true),(5,5,fun gh=>.bool true)],[(4,Vp b2),(6,Vp b6)],[⟨some (.box b6 [Vi 2,Vi en,.string es]),[]⟩,⟨some (.box b2 [Vi 0,Vi 0,Ve]),[(4,fun gh=>.box b2 [Vi 2,Vi en,.string es])]⟩,⟨some (.box b1 [Vi x.op,Vi x.k,Vi x.n,.string x.s,.string x.nm,.slice (some ⟨b3,o4,none⟩) len c]),[]⟩],[],[[],[],[1],[1,2],[0],[0,1,2,3,4]],h⟩
  have hmono:∀ zq∈R.F,∀ zx zh zi,Sees zh zi→zq.2 zx zh→zq.2 zx zi:=lJ
  refine iY (by kernel_rfl) R hJ 6 [.ld 0 0,.pu,.ld 0 0,.pu,.st 1 0,.pu] (by kernel_rfl) hmono (fun _ _ _=>by kernel_rfl) (fun hT hA=>?_) ?_
  ·trivial
  clear hJ a w; intro gh h7 a w sR hJ1 hF; have s8:Sees h h7:=sR; clear sR
  have hJ:K ⟨31,h.w,h.bad,[]⟩ [(4,Vp b2),(5,.bool true)] [.box b6 [Vi 2,Vi en,.string es],.box b2 [Vi 2,Vi en,.string es],.box b1 [Vi x.op,Vi x.k,Vi x.n,.string x.s,.string x.nm,.slice (some ⟨b3,o4,none⟩) len c]] [(b3,o4 + 0 * 6,[Vi y.op,Vi y.k,Vi y.n,.string y.s,.string y.nm,.slice Au nu cu])] h7 a w:=hJ1.tw
  clear hJ1 hF hmono R
  clear gh
  refine rk' hJ false 2 [] [] (.k (.out .ret) [] [4,5] []) ?_
  clear hJ a w; intro a w hJ
  refine zX (hQ [.agg #[Vi 2,Vi en,.string es],.bool true] _ [] hJ (.rcel hJ.j 1 (.rtm hJ.j .nil)) (fJ _) rfl ?_).1
  exact rfl
 ·refine yX Tryz.func110 (c:=Tryz.f110.body.getD .skip) (N:=31) ?_
  intro hbx hbad Q hQ a w hJ
  refine rx' hJ false 12 [.own,.own,.b 1 5] [] (.new fun b1=>.new fun b2=>.ok (.ops [0,1] 3) [.seq [1,1]] [(4,Vp b2),(7,.map (some b)),(9,.slice A len c)] [.box b2 [Vi 0,Vi 0,Ve],.box b1 [Vi x.op,Vi x.k,Vi x.n,.string x.s,.string x.nm,.slice A len c]] []) (fun b1 b2 _=>by kernel_rfl) ?_
  clear hJ a w; intro b1 b2 a w hJ
  obtain ⟨b3,o4,rfl,-,c5⟩:=RS.row hr (hrow)
  replace hJ:=hJ.fact (c5.sees (Sees.refl _))
  refine rk hJ false 35 [.ix b3 o4 len c 0,.f 0 0,.cl 89 #[.map (some b),.agg #[Vi y.op,Vi y.k,Vi y.n,.string y.s,.string y.nm,.slice Au nu cu]] (.agg #[Vi 3,Vi en,.string es]),.own,.b 0 0,.b 0 0,.b 0 0,.b 0 0,.cl 109 #[Vi 9] (.agg #[Vi 5,Vi 9,Ve]),.b 1 0] [] (.new fun b6=>.f (.out .ret) [] [4] [(5,.bool false)] [.box b6 [Vi 3,Vi en,.string es],.box b2 [Vi 5,Vi 9,Ve],.box b1 [Vi x.op,Vi x.k,Vi x.n,.string x.s,.string x.nm,.slice (some ⟨b3,o4,none⟩) len c]] [.o 0]) (And.intro (by first | omega | (simp; omega)) (And.intro (fun H sH=>ho _ _ (hyu.sees sH) (hm.sees sH)) (And.intro (fun H sH=>yK 9 _) (trivial)))) trivial (fun b6 _=>by kernel_rfl) ?_
  clear hJ a w; intro b6 a w hJ
  refine zX (hQ [.agg #[Vi 5,Vi 9,Ve],.bool false] _ [] hJ (.rcel hJ.j 1 (.rtm hJ.j .nil)) (fJ _) rfl ?_).1
  exact rfl
 ·refine yX Tryz.func110 (c:=Tryz.f110.body.getD .skip) (N:=31) ?_
  intro hbx hbad Q hQ a w hJ
  refine rx' hJ false 12 [.own,.own,.b 1 5] [] (.new fun b1=>.new fun b2=>.ok (.ops [0,1] 3) [.seq [1,1]] [(4,Vp b2),(7,.map (some b)),(9,.slice A len c)] [.box b2 [Vi 0,Vi 0,Ve],.box b1 [Vi x.op,Vi x.k,Vi x.n,.string x.s,.string x.nm,.slice A len c]] []) (fun b1 b2 _=>by kernel_rfl) ?_
  clear hJ a w; intro b1 b2 a w hJ
  obtain ⟨b3,o4,rfl,-,c5⟩:=RS.row hr (hrow)
  replace hJ:=hJ.fact (c5.sees (Sees.refl _))
  refine rk hJ false 29 [.ix b3 o4 len c 0,.f 0 0,.cl 89 #[.map (some b),.agg #[Vi y.op,Vi y.k,Vi y.n,.string y.s,.string y.nm,.slice Au nu cu]] (.agg #[Vi 4,Vi en,.string es]),.own,.b 0 0,.b 0 0,.b 0 0] [] (.new fun b6=>.f (.code [0,1,1,1]) [.seq [1,1,1,1]] [4] [(6,Vp b6)] [.box b6 [Vi 4,Vi en,.string es],.box b2 [Vi 0,Vi 0,Ve],.box b1 [Vi x.op,Vi x.k,Vi x.n,.string x.s,.string x.nm,.slice (some ⟨b3,o4,none⟩) len c]] [.o 0]) (And.intro (by first | omega | (simp; omega)) (And.intro (fun H sH=>ho _ _ (hyu.sees sH) (hm.sees sH)) (trivial))) trivial (fun b6 _=>by kernel_rfl) ?_
  clear hJ a w; intro b6 a w hJ
  let R:Reg:=⟨⟨31,h.w,h.bad,[]⟩,[(0,27,fun gh=>.agg #[Vi 4,Vi en,.string es]),(1,28,fun gh=>Vp b6),(2,29,fun gh=>Vi 4),(3,30,fun gh=>.bool false),(5,5,fun gh=>.bool false)],[(4,Vp b2),(6,Vp b6)],[⟨some (.box b6 [Vi 4,Vi en,.string es]),[]⟩,⟨some (.box b2 [Vi 0,Vi 0,Ve]),[(4,fun gh=>.box b2 [Vi 4,Vi en,.string es])]⟩,⟨some (.box b1 [Vi x.op,Vi x.k,Vi x.n,.string x.s,.string x.nm,.slice (some ⟨b3,o4,none⟩) len c]),[]⟩],[],[[],[],[1],[1,2],[0],[0,1,2,3,4]],h⟩
  have hmono:∀ zq∈R.F,∀ zx zh zi,Sees zh zi→zq.2 zx zh→zq.2 zx zi:=lJ
  refine iY (by kernel_rfl) R hJ 6 [.ld 0 0,.pu,.ld 0 0,.pu,.st 1 0,.pu] (by kernel_rfl) hmono (fun _ _ _=>by kernel_rfl) (fun hT hA=>?_) ?_
  ·trivial
  clear hJ a w; intro gh h7 a w sR hJ1 hF; have s8:Sees h h7:=sR; clear sR
  have hJ:K ⟨31,h.w,h.bad,[]⟩ [(4,Vp b2),(5,.bool false)] [.box b6 [Vi 4,Vi en,.string es],.box b2 [Vi 4,Vi en,.string es],.box b1 [Vi x.op,Vi x.k,Vi x.n,.string x.s,.string x.nm,.slice (some ⟨b3,o4,none⟩) len c]] [(b3,o4 + 0 * 6,[Vi y.op,Vi y.k,Vi y.n,.string y.s,.string y.nm,.slice Au nu cu])] h7 a w:=hJ1.tw
  clear hJ1 hF hmono R
  clear gh
  refine rk' hJ false 2 [] [] (.k (.out .ret) [] [4,5] []) ?_
  clear hJ a w; intro a w hJ
  refine zX (hQ [.agg #[Vi 4,Vi en,.string es],.bool false] _ [] hJ (.rcel hJ.j 1 (.rtm hJ.j .nil)) (fJ _) rfl ?_).1
  exact rfl
 ·refine yX Tryz.func110 (c:=Tryz.f110.body.getD .skip) (N:=31) ?_
  intro hbx hbad Q hQ a w hJ
  refine rx' hJ false 12 [.own,.own,.b 1 5] [] (.new fun b1=>.new fun b2=>.ok (.ops [0,1] 3) [.seq [1,1]] [(4,Vp b2),(7,.map (some b)),(9,.slice A len c)] [.box b2 [Vi 0,Vi 0,Ve],.box b1 [Vi x.op,Vi x.k,Vi x.n,.string x.s,.string x.nm,.slice A len c]] []) (fun b1 b2 _=>by kernel_rfl) ?_
  clear hJ a w; intro b1 b2 a w hJ
  obtain ⟨b3,o4,rfl,-,c5⟩:=RS.row hr (hrow)
  replace hJ:=hJ.fact (c5.sees (Sees.refl _))
  refine rk hJ false 29 [.ix b3 o4 len c 0,.f 0 0,.cl 89 #[.map (some b),.agg #[Vi y.op,Vi y.k,Vi y.n,.string y.s,.string y.nm,.slice Au nu cu]] (.agg #[Vi 5,Vi en,.string es]),.own,.b 0 0,.b 0 0,.b 0 0,.b 0 0] [] (.new fun b6=>.f (.code [0,1,1,1]) [.seq [1,1,1,1]] [4] [(6,Vp b6)] [.box b6 [Vi 5,Vi en,.string es],.box b2 [Vi 0,Vi 0,Ve],.box b1 [Vi x.op,Vi x.k,Vi x.n,.string x.s,.string x.nm,.slice (some ⟨b3,o4,none⟩) len c]] [.o 0]) (And.intro (by first | omega | (simp; omega)) (And.intro (fun H sH=>ho _ _ (hyu.sees sH) (hm.sees sH)) (trivial))) trivial (fun b6 _=>by kernel_rfl) ?_
  clear hJ a w; intro b6 a w hJ
  let R:Reg:=⟨⟨31,h.w,h.bad,[]⟩,[(0,27,fun gh=>.agg #[Vi 5,Vi en,.string es]),(1,28,fun gh=>Vp b6),(2,29,fun gh=>Vi 5),(3,30,fun gh=>.bool false),(5,5,fun gh=>.bool false)],[(4,Vp b2),(6,Vp b6)],[⟨some (.box b6 [Vi 5,Vi en,.string es]),[]⟩,⟨some (.box b2 [Vi 0,Vi 0,Ve]),[(4,fun gh=>.box b2 [Vi 5,Vi en,.string es])]⟩,⟨some (.box b1 [Vi x.op,Vi x.k,Vi x.n,.string x.s,.string x.nm,.slice (some ⟨b3,o4,none⟩) len c]),[]⟩],[],[[],[],[1],[1,2],[0],[0,1,2,3,4]],h⟩
  have hmono:∀ zq∈R.F,∀ zx zh zi,Sees zh zi→zq.2 zx zh→zq.2 zx zi:=lJ
  refine iY (by kernel_rfl) R hJ 6 [.ld 0 0,.pu,.ld 0 0,.pu,.st 1 0,.pu] (by kernel_rfl) hmono (fun _ _ _=>by kernel_rfl) (fun hT hA=>?_) ?_
  ·trivial
  clear hJ a w; intro gh h7 a w sR hJ1 hF; have s8:Sees h h7:=sR; clear sR
  have hJ:K ⟨31,h.w,h.bad,[]⟩ [(4,Vp b2),(5,.bool false)] [.box b6 [Vi 5,Vi en,.string es],.box b2 [Vi 5,Vi en,.string es],.box b1 [Vi x.op,Vi x.k,Vi x.n,.string x.s,.string x.nm,.slice (some ⟨b3,o4,none⟩) len c]] [(b3,o4 + 0 * 6,[Vi y.op,Vi y.k,Vi y.n,.string y.s,.string y.nm,.slice Au nu cu])] h7 a w:=hJ1.tw
  clear hJ1 hF hmono R
  clear gh
  refine rk' hJ false 2 [] [] (.k (.out .ret) [] [4,5] []) ?_
  clear hJ a w; intro a w hJ
  refine zX (hQ [.agg #[Vi 5,Vi en,.string es],.bool false] _ [] hJ (.rcel hJ.j 1 (.rtm hJ.j .nil)) (fJ _) rfl ?_).1
  exact rfl
theorem bool_any (env:Env) (b:Nat) (x:Ex) (sl:Value) (h:Vw) (hx:IsArgs h x sl) (hm:MapAt h b (mK env)) (ho:∀ v h,IsArgs h x v→MapAt h b (mK env)→C0 Tryz.prog 89 #[.map (some b),.agg #[.int .i64 x.op,.int .i64 x.k,.int .i64 x.n,.string x.s,.string x.nm,v]] h (fun r _=>r=(nK env x).val)) (hok:OkV (nK env x)) :
  C0 Tryz.prog 111 #[.map (some b),.agg #[.int .i64 x.op,.int .i64 x.k,.int .i64 x.n,.string x.s,.string x.nm,sl]] h (fun r _=>r=(aK (nK env x)).val):=by
 obtain ⟨A,len,c,rfl⟩:=hx.slice
 have hk:=ok_kinds hok
 generalize nK env x=e at *
 obtain ⟨ek,en,es⟩:=e
 obtain rfl | rfl | rfl | rfl | rfl:ek=1∨ek=2∨ek=3∨ek=4∨ek=5:=by simp only at hk; omega
 ·refine yX Tryz.func111 (c:=Tryz.f111.body.getD .skip) (N:=19) ?_
  intro hbx hbad Q hQ a w hJ
  refine rx' hJ false 37 [.own,.own,.b 1 0,.cl 89 #[.map (some b),.agg #[Vi x.op,Vi x.k,Vi x.n,.string x.s,.string x.nm,.slice A len c]] (.agg #[Vi 1,Vi en,.string es]),.own,.b 0 0,.b 0 0,.cl 109 #[Vi 9] (.agg #[Vi 5,Vi 9,Ve]),.b 1 0] [] (.new fun b1=>.new fun b2=>.new fun b3=>.ok (.out .ret) [] [(4,Vp b2)] [.box b3 [Vi 1,Vi en,.string es],.box b2 [Vi 5,Vi 9,Ve],.box b1 [Vi x.op,Vi x.k,Vi x.n,.string x.s,.string x.nm,.slice A len c]] []) (ho:=And.intro (fun H sH=>ho _ _ (hx.sees sH) (hm.sees sH)) (And.intro (fun H sH=>yK 9 _) (trivial))) (fun b1 b2 b3 _=>by kernel_rfl) ?_
  clear hJ a w; intro b1 b2 b3 a w hJ
  refine zX (hQ [.agg #[Vi 5,Vi 9,Ve]] _ [] hJ (.rcel hJ.j 1 .nil) (fJ _) rfl ?_).1
  exact rfl
 ·refine yX Tryz.func111 (c:=Tryz.f111.body.getD .skip) (N:=19) ?_
  intro hbx hbad Q hQ a w hJ
  refine rx' hJ false 38 [.own,.own,.b 1 0,.cl 89 #[.map (some b),.agg #[Vi x.op,Vi x.k,Vi x.n,.string x.s,.string x.nm,.slice A len c]] (.agg #[Vi 2,Vi en,.string es]),.own,.b 0 0,.b 0 0,.b 0 0,.b 0 0,.b 1 0] [] (.new fun b1=>.new fun b2=>.new fun b3=>.ok (.out .ret) [] [(4,Vp b2)] [.box b3 [Vi 2,Vi en,.string es],.box b2 [Vi 2,Vi en,.string es],.box b1 [Vi x.op,Vi x.k,Vi x.n,.string x.s,.string x.nm,.slice A len c]] []) (ho:=And.intro (fun H sH=>ho _ _ (hx.sees sH) (hm.sees sH)) (trivial)) (fun b1 b2 b3 _=>by kernel_rfl) ?_
  clear hJ a w; intro b1 b2 b3 a w hJ
  refine zX (hQ [.agg #[Vi 2,Vi en,.string es]] _ [] hJ (.rcel hJ.j 1 .nil) (fJ _) rfl ?_).1
  exact rfl
 ·refine yX Tryz.func111 (c:=Tryz.f111.body.getD .skip) (N:=19) ?_
  intro hbx hbad Q hQ a w hJ
  refine rx' hJ false 37 [.own,.own,.b 1 0,.cl 89 #[.map (some b),.agg #[Vi x.op,Vi x.k,Vi x.n,.string x.s,.string x.nm,.slice A len c]] (.agg #[Vi 3,Vi en,.string es]),.own,.b 0 0,.b 0 0,.b 0 0,.cl 109 #[Vi 9] (.agg #[Vi 5,Vi 9,Ve]),.b 1 0] [] (.new fun b1=>.new fun b2=>.new fun b3=>.ok (.out .ret) [] [(4,Vp b2)] [.box b3 [Vi 3,Vi en,.string es],.box b2 [Vi 5,Vi 9,Ve],.box b1 [Vi x.op,Vi x.k,Vi x.n,.string x.s,.string x.nm,.slice A len c]] []) (ho:=And.intro (fun H sH=>ho _ _ (hx.sees sH) (hm.sees sH)) (And.intro (fun H sH=>yK 9 _) (trivial))) (fun b1 b2 b3 _=>by kernel_rfl) ?_
  clear hJ a w; intro b1 b2 b3 a w hJ
  refine zX (hQ [.agg #[Vi 5,Vi 9,Ve]] _ [] hJ (.rcel hJ.j 1 .nil) (fJ _) rfl ?_).1
  exact rfl
 ·refine yX Tryz.func111 (c:=Tryz.f111.body.getD .skip) (N:=19) ?_
  intro hbx hbad Q hQ a w hJ
  refine rx' hJ false 38 [.own,.own,.b 1 0,.cl 89 #[.map (some b),.agg #[Vi x.op,Vi x.k,Vi x.n,.string x.s,.string x.nm,.slice A len c]] (.agg #[Vi 4,Vi en,.string es]),.own,.b 0 0,.b 0 0,.b 0 0,.b 0 0,.b 1 0] [] (.new fun b1=>.new fun b2=>.new fun b3=>.ok (.out .ret) [] [(4,Vp b2)] [.box b3 [Vi 4,Vi en,.string es],.box b2 [Vi 4,Vi en,.string es],.box b1 [Vi x.op,Vi x.k,Vi x.n,.string x.s,.string x.nm,.slice A len c]] []) (ho:=And.intro (fun H sH=>ho _ _ (hx.sees sH) (hm.sees sH)) (trivial)) (fun b1 b2 b3 _=>by kernel_rfl) ?_
  clear hJ a w; intro b1 b2 b3 a w hJ
  refine zX (hQ [.agg #[Vi 4,Vi en,.string es]] _ [] hJ (.rcel hJ.j 1 .nil) (fJ _) rfl ?_).1
  exact rfl
 ·refine yX Tryz.func111 (c:=Tryz.f111.body.getD .skip) (N:=19) ?_
  intro hbx hbad Q hQ a w hJ
  refine rx' hJ false 38 [.own,.own,.b 1 0,.cl 89 #[.map (some b),.agg #[Vi x.op,Vi x.k,Vi x.n,.string x.s,.string x.nm,.slice A len c]] (.agg #[Vi 5,Vi en,.string es]),.own,.b 0 0,.b 0 0,.b 0 0,.b 0 0,.b 1 0] [] (.new fun b1=>.new fun b2=>.new fun b3=>.ok (.out .ret) [] [(4,Vp b2)] [.box b3 [Vi 5,Vi en,.string es],.box b2 [Vi 5,Vi en,.string es],.box b1 [Vi x.op,Vi x.k,Vi x.n,.string x.s,.string x.nm,.slice A len c]] []) (ho:=And.intro (fun H sH=>ho _ _ (hx.sees sH) (hm.sees sH)) (trivial)) (fun b1 b2 b3 _=>by kernel_rfl) ?_
  clear hJ a w; intro b1 b2 b3 a w hJ
  refine zX (hQ [.agg #[Vi 5,Vi en,.string es]] _ [] hJ (.rcel hJ.j 1 .nil) (fJ _) rfl ?_).1
  exact rfl
end Go.Proofs.YthckljafinhepaaGreat
namespace Go.Proofs.YthckljafinhepaaGreat
open Go.RowKit
theorem vrows_snoc (l:List Vl) (e:Vl):vrows (l++[e])=vrows l++[e.cells]:=by simp [vrows]
def zV:Vl:=⟨0,0,⟨#[]⟩⟩
theorem lackV_step (p:Option Vl) (v:Vl) (l:List Vl) (h:v.k≠5):zQ p (v :: l)=zQ (if v.k=4 then some v else p) l:=by
 conv=>lhs; unfold zQ
 rw [if_neg h]
theorem lackV_hit (p:Option Vl) (v:Vl) (l:List Vl) (h:v.k=5):zQ p (v :: l)=some v:=by
 unfold zQ
 rw [if_pos h]
theorem drop_at {α:Type} {l:List α} {k:Nat} {x:α} (h:l[k]?=some x):l.drop k=x :: l.drop (k + 1):=by
 obtain ⟨hk,rfl⟩:=List.getElem?_eq_some_iff.1 h
 exact List.drop_eq_getElem_cons hk
theorem all_any (env:Env) (b:Nat) (x:Ex) (sl:Value) (h:Vw) (hx:IsArgs h x sl) (hm:MapAt h b (mK env)) (hof:OfAll env b x.args) (hl3:x.args.length≤3) :
  C0 Tryz.prog 112 #[.map (some b),sl] h (fun v h'=>∃ A n c u,v=.tuple #[.slice A n c,u.val]∧(zQ none (oK env x.args)).getD zV=u∧(zQ none (oK env x.args)=none→n=x.args.length∧RS h' 3 (.slice A n c) (vrows (oK env x.args)))):=by
 obtain ⟨vs,hr,hvs⟩:=hx.form
 obtain ⟨A,cap,rfl,-,-,-⟩:=hr.form
 have hvl:=hvs.len
 have hrl:=tK hvl
 rw [hrl] at hr ⊢
 rw [pK]
 generalize hL:x.args.length=len at *
 have hel:(x.args.map (nK env)).length=len:=by rw [List.length_map,hL]
 refine yX Tryz.func112 (c:=Tryz.f112.body.getD .skip) (N:=35) ?_
 intro hbx hbad Q hQ a w hJ
 replace hJ:K ⟨35,h.w,h.bad,[]⟩ [(0,.map (some b)),(1,.slice A len cap)] [] [] h a w:=hJ.tw
 replace hJ:=hJ.nilrow 38 3
 refine rk' hJ false 25 [.own,.own] [] (.new fun b1=>.new fun b2=>.m (.code [0,1,0,1,1,1]) [.block 0,.seq [1,1,1,1]] [0] [(5,Vp b1),(6,Vz),(7,Vp b2),(11,.slice A len cap),(12,Vi (len:Int)),(13,Vi 0)] [.box b2 [Vi 0,Vi 0,Ve],.box b1 [Vi 0,Vi 0,Ve],.row (Vz) 38 3 ([])] []) (hr:=fun b1 b2 _=>by kernel_rfl) ?_
 clear hJ a w; intro b1 b2 a w hJ
 refine eY (fun (k:Nat) a w=>∃ (h3:Vw) (v:Value) (pd:Option Vl),K ⟨35,h.w,h.bad,[]⟩ [(0,.map (some b)),(5,Vp b1),(7,Vp b2),(11,.slice A len cap),(12,Vi (len:Int)),(13,Vi (k:Int)),(6,v)] [.box b2 [Vi ((pd.getD zV).k),Vi ((pd.getD zV).n),.string ((pd.getD zV).s)],.box b1 [Vi 0,Vi 0,Ve],.row v 38 3 (vrows ((x.args.map (nK env)).take k))] [] h3 a w∧Sees h h3∧(k≤len)∧(zQ none (x.args.map (nK env))=zQ pd ((x.args.map (nK env)).drop k))) (fun k=>len - k) (0) ⟨h,(Vz),none,hJ.tw,Sees.refl _,Nat.zero_le _,rfl⟩ ?_
 clear hJ a w; rintro k a w ⟨h3,v,pd,hJ,s4,hk,hlk⟩
 refine rk' hJ false 6 [] [] (.k (.code [0,1,0,0,1,0,1,1,1]) [.seq [1,1,0,0,1,0,1,1,1]] [0,5,7,11,12,13,6] [(14,.bool (decide ((k:Int) < (len:Int))))]) ?_
 clear hJ a w; intro a w hJ
 rcases (by omega:k < len∨len=k) with hlt | hke
 ·obtain ⟨y,hy⟩:∃ y,x.args[k]?=some y:=⟨_,List.getElem?_eq_getElem (by omega)⟩
  obtain ⟨u,hu⟩:∃ u,vs[k]?=some u:=⟨_,List.getElem?_eq_getElem (by omega)⟩
  have hyu:=AllArgs.get hvs hy hu
  obtain ⟨Au,nu,cu,rfl⟩:=hyu.slice
  have hrow:(sK x.args vs)[k]?=some (exRow y (.slice Au nu cu)):=by show (List.zipWith exRow _ _)[k]?=_; rw [List.getElem?_zipWith,hy,hu]
  have ho:=hof y (List.mem_of_getElem? hy)
  have hek:(x.args.map (nK env))[k]?=some (nK env y):=by rw [List.getElem?_map,hy]; rfl
  rw [drop_at hek] at hlk
  have htk:=pX _ k _ hek
  have htl:((x.args.map (nK env)).take k).length=k:=by rw [List.length_take,hel]; omega
  generalize nK env y=e at *
  generalize x.args.map (nK env)=vals at *
  refine kY hJ (t:=decide ((k:Int) < (len:Int))) (decide_eq_true (by omega)) ?_
  refine rk' hJ false 6 [] [] (.k (.ops [0,0,0,1,1,0,0,1,0,1,1,1] 0) [.seq [1,0,0,1,1,0,0,1,0,1,1,1],.block 1,.seq [1,1,1,0,0,1,0,1,1,1]] [0,5,7,11,12,13,6] []) ?_
  clear hJ a w; intro a w hJ
  obtain ⟨b5,o6,rfl,-,c7⟩:=RS.row hr (hrow)
  replace hJ:=hJ.fact (c7.sees s4)
  refine rk hJ false 23 [.ix b5 o6 len cap k,.f 0 0,.own,.b 0 0,.b 0 0,.cl 89 #[.map (some b),.agg #[Vi y.op,Vi y.k,Vi y.n,.string y.s,.string y.nm,.slice Au nu cu]] (.agg #[Vi e.k,Vi e.n,.string e.s]),.own,.b 0 0,.b 0 0] [] (.new fun b8=>.new fun b9=>.f (.code [1,0,1,1,0,0,1,1,0,0,1,0,1,1,1]) [.seq [1,1,1,0,0,1,1,0,0,1,0,1,1,1],.block 1,.seq [1,1,1,0,0,1,0,1,1,1]] [0,5,7,11,12,13,6] [(10,Vp b9),(22,.bool (e.k == 5))] [.box b9 [Vi e.k,Vi e.n,.string e.s],.box b8 [Vi y.op,Vi y.k,Vi y.n,.string y.s,.string y.nm,.slice Au nu cu],.box b2 [Vi ((pd.getD zV).k),Vi ((pd.getD zV).n),.string ((pd.getD zV).s)],.box b1 [Vi 0,Vi 0,Ve],.row v 38 3 (vrows (vals.take k))] [.o 0]) (And.intro (by first | omega | (simp; omega)) (And.intro (fun H sH=>ho _ _ (hyu.sees (s4.trans sH)) (hm.sees (s4.trans sH))) (trivial))) trivial (fun b8 b9 _=>by kernel_rfl) ?_
  clear hJ a w; intro b8 b9 a w hJ
  by_cases h5:e.k=5
  ·rw [lackV_hit _ _ _ h5] at hlk
   refine kY hJ (t:=e.k == 5) (beq_iff_eq.2 h5) ?_
   refine rk' hJ false 1 [] [] (.k (.code [0,0,1,0,1,1,0,0,1,1,0,0,1,0,1,1,1]) [.seq [1,0,1,0,1,1,0,0,1,1,0,0,1,0,1,1,1],.seq [1,1,1,0,0,1,1,0,0,1,0,1,1,1],.block 1,.seq [1,1,1,0,0,1,0,1,1,1]] [5,10] []) ?_
   clear hJ a w; intro a w hJ
   let R:Reg:=⟨⟨35,h.w,h.bad,[]⟩,[(0,23,fun gh=>.agg #[Vi e.k,Vi e.n,.string e.s]),(1,4,fun gh=>Vz)],[(5,Vp b1),(10,Vp b9)],[⟨some (.box b9 [Vi e.k,Vi e.n,.string e.s]),[]⟩,⟨some (.box b8 [Vi y.op,Vi y.k,Vi y.n,.string y.s,.string y.nm,.slice Au nu cu]),[]⟩,⟨some (.box b2 [Vi ((pd.getD zV).k),Vi ((pd.getD zV).n),.string ((pd.getD zV).s)]),[]⟩,⟨some (.box b1 [Vi 0,Vi 0,Ve]),[(2,fun gh=>.box b1 [Vi e.k,Vi e.n,.string e.s])]⟩,⟨some (.row v 38 3 (vrows (vals.take k))),[]⟩],[],[[],[],[0,1]],h3⟩
   have hmono:∀ zq∈R.F,∀ zx zh zi,Sees zh zi→zq.2 zx zh→zq.2 zx zi:=lJ
   refine iY (by kernel_rfl) R hJ 3 [.ld 0 0,.pu,.st 3 0] (by kernel_rfl) hmono (fun _ _ _=>by kernel_rfl) (fun hT hA=>?_) ?_
   ·trivial
   clear hJ a w; intro gh h10 a w sR hJ1 hF; have s11:Sees h3 h10:=sR; clear sR
   have hJ:K ⟨35,h.w,h.bad,[]⟩ [(5,Vp b1),(4,Vz)] [.box b9 [Vi e.k,Vi e.n,.string e.s],.box b8 [Vi y.op,Vi y.k,Vi y.n,.string y.s,.string y.nm,.slice Au nu cu],.box b2 [Vi ((pd.getD zV).k),Vi ((pd.getD zV).n),.string ((pd.getD zV).s)],.box b1 [Vi e.k,Vi e.n,.string e.s],.row v 38 3 (vrows (vals.take k))] [(b5,o6 + k * 6,[Vi y.op,Vi y.k,Vi y.n,.string y.s,.string y.nm,.slice Au nu cu])] h10 a w:=hJ1.tw
   clear hJ1 hF hmono R
   clear gh
   refine rk' hJ false 5 [] [] (.k (.out .ret) [] [5,4] []) ?_
   clear hJ a w; intro a w hJ
   refine dY rfl ?_
   refine rk' hJ false 2 [] [] (.k (.out .ret) [] [5,4] []) ?_
   clear hJ a w; intro a w hJ
   refine zX (hQ [Vz,.agg #[Vi e.k,Vi e.n,.string e.s]] _ [] hJ (.rtm hJ.j (.rcel hJ.j 3 .nil)) (fJ _) rfl ?_).1
   exact ⟨none,0,0,e,rfl,by rw [hlk]; rfl,fun hn=>by rw [hlk] at hn; cases hn⟩
  ·skip
   rw [lackV_step _ _ _ h5] at hlk
   refine aY hJ (t:=e.k == 5) (beq_eq_false_iff_ne.2 h5) ?_
   refine rk' hJ false 10 [.b 0 0] [] (.k (.code [1,0,1,1,1,0,0,1,1,0,0,1,0,1,1,1]) [.seq [1,1,1,1,0,0,1,1,0,0,1,0,1,1,1],.block 1,.seq [1,1,1,0,0,1,0,1,1,1]] [0,5,7,11,12,13,6,10] [(26,.bool (e.k == 4))]) ?_
   clear hJ a w; intro a w hJ
   by_cases h4:e.k=4
   ·rw [if_pos h4] at hlk
    refine kY hJ (t:=e.k == 4) (beq_iff_eq.2 h4) ?_
    refine rx' hJ true 9 [.b 0 0,.b 2 0,.b 0 0,.fix] [] (.new fun b12=>.ok (.ops [1,1,1,1,0,0,1,1,0,0,1,0,1,1,1] 3) [.block 1,.seq [1,1,1,0,0,1,0,1,1,1]] [(0,.map (some b)),(5,Vp b1),(7,Vp b2),(11,.slice (some ⟨b5,o6,none⟩) len cap),(12,Vi (len:Int)),(13,Vi (k:Int)),(28,v),(30,Vs b12 1 1)] [.box b9 [Vi e.k,Vi e.n,.string e.s],.box b8 [Vi y.op,Vi y.k,Vi y.n,.string y.s,.string y.nm,.slice Au nu cu],.box b2 [Vi e.k,Vi e.n,.string e.s],.box b1 [Vi 0,Vi 0,Ve],.row v 38 3 (vrows (vals.take k))] [(b12,0,[Vi e.k,Vi e.n,.string e.s]),(b5,o6 + k * 6,[Vi y.op,Vi y.k,Vi y.n,.string y.s,.string y.nm,.slice Au nu cu])]) (fun b12 _=>by kernel_rfl) ?_
    clear hJ a w; intro b12 h13 a w s14 hJ
    refine rk hJ true 9 [.ap 4 0 (vrows (vals.take k)) [[Vi e.k,Vi e.n,.string e.s]]] [(32,Vi (IntKind.i64.wrap ((k:Int) + 1)),Vi ((k:Int) + 1))] (.nv fun v31=>.f (.out .normal) [] [0,5,7,11,12] [(6,.slice (sA v31) (sN v31) (sC v31)),(13,Vi ((k:Int) + 1))] [.box b9 [Vi e.k,Vi e.n,.string e.s],.box b8 [Vi y.op,Vi y.k,Vi y.n,.string y.s,.string y.nm,.slice Au nu cu],.box b2 [Vi e.k,Vi e.n,.string e.s],.box b1 [Vi 0,Vi 0,Ve],.row (.slice (sA v31) (sN v31) (sC v31)) 38 3 ((vrows (vals.take k))++[[Vi e.k,Vi e.n,.string e.s]])] [.o 0,.o 1]) (And.intro (by rw [List.length_map,htl]; simp; omega) (trivial)) (And.intro (kJ (by omega) (by omega)) (trivial)) (fun v31 _=>by kernel_rfl) ?_
    clear hJ a w; intro v31 h15 a w s16 hJ
    replace hJ:=hJ.drop 1
    replace hJ:=hJ.drop 0
    exact jY ⟨k + 1,⟨h15,.slice (sA v31) (sN v31) (sC v31),some e,(hJ.tof [] (F':=[]) (by kernel_rfl)).to (by kernel_rfl) (by rw [htk,vrows_snoc]; rfl) rfl,(s4.trans (s14.trans s16)),by omega,hlk⟩,by omega⟩
   ·skip
    rw [if_neg h4] at hlk
    refine aY hJ (t:=e.k == 4) (beq_eq_false_iff_ne.2 h4) ?_
    refine rk' hJ true 6 [.b 0 0,.fix] [] (.new fun b17=>.g (.ops [1,1,1,1,0,0,1,1,0,0,1,0,1,1,1] 3) [.block 1,.seq [1,1,1,0,0,1,0,1,1,1]] [0,5,7,11,12,13] [(28,v),(30,Vs b17 1 1)] [.n (b17,0,[Vi e.k,Vi e.n,.string e.s]),.o 0]) (hr:=fun b17 _=>by kernel_rfl) ?_
    clear hJ a w; intro b17 h18 a w s19 hJ
    refine rk hJ true 9 [.ap 4 0 (vrows (vals.take k)) [[Vi e.k,Vi e.n,.string e.s]]] [(32,Vi (IntKind.i64.wrap ((k:Int) + 1)),Vi ((k:Int) + 1))] (.nv fun v31=>.f (.out .normal) [] [0,5,7,11,12] [(6,.slice (sA v31) (sN v31) (sC v31)),(13,Vi ((k:Int) + 1))] [.box b9 [Vi e.k,Vi e.n,.string e.s],.box b8 [Vi y.op,Vi y.k,Vi y.n,.string y.s,.string y.nm,.slice Au nu cu],.box b2 [Vi ((pd.getD zV).k),Vi ((pd.getD zV).n),.string ((pd.getD zV).s)],.box b1 [Vi 0,Vi 0,Ve],.row (.slice (sA v31) (sN v31) (sC v31)) 38 3 ((vrows (vals.take k))++[[Vi e.k,Vi e.n,.string e.s]])] [.o 0,.o 1]) (And.intro (by rw [List.length_map,htl]; simp; omega) (trivial)) (And.intro (kJ (by omega) (by omega)) (trivial)) (fun v31 _=>by kernel_rfl) ?_
    clear hJ a w; intro v31 h20 a w s21 hJ
    replace hJ:=hJ.drop 1
    replace hJ:=hJ.drop 0
    exact jY ⟨k + 1,⟨h20,.slice (sA v31) (sN v31) (sC v31),pd,(hJ.tof [] (F':=[]) (by kernel_rfl)).to (by kernel_rfl) (by rw [htk,vrows_snoc]; rfl) rfl,(s4.trans (s19.trans s21)),by omega,hlk⟩,by omega⟩
 ·skip
  have hta:(x.args.map (nK env)).take k=x.args.map (nK env):=List.take_of_length_le (by omega)
  rw [hta] at hJ
  rw [List.drop_eq_nil_of_le (by omega)] at hlk
  obtain ⟨A2,c2,hE_v,hc_v,hm_v⟩:=hJ.form (v:=v) (e:=38) (k:=3) (l:=vrows (x.args.map (nK env))) 2 (by kernel_rfl)
  rw [show (vrows (x.args.map (nK env))).length=len from by first | omega | (simp; done) | (simp; omega)] at hE_v hc_v
  rw [hE_v] at hJ
  refine aY hJ (t:=decide ((k:Int) < (len:Int))) (decide_eq_false (by omega)) ?_
  refine rk' hJ false 2 [] [] (.k (.out (.exit 0)) [] [5,7,6] []) ?_
  clear hJ a w; intro a w hJ
  refine dY rfl ?_
  refine rk' hJ false 3 [] [] (.k (.code [0,1,1,1,1]) [.seq [1,1,1,1,1]] [5,7,6] []) ?_
  clear hJ a w; intro a w hJ
  let R:Reg:=⟨⟨35,h.w,h.bad,[]⟩,[(0,33,fun gh=>.slice A2 len c2),(1,34,fun gh=>.agg #[Vi ((pd.getD zV).k),Vi ((pd.getD zV).n),.string ((pd.getD zV).s)]),(2,4,fun gh=>.slice A2 len c2)],[(5,Vp b1),(7,Vp b2),(6,.slice A2 len c2)],[⟨some (.box b2 [Vi ((pd.getD zV).k),Vi ((pd.getD zV).n),.string ((pd.getD zV).s)]),[]⟩,⟨some (.box b1 [Vi 0,Vi 0,Ve]),[(3,fun gh=>.box b1 [Vi ((pd.getD zV).k),Vi ((pd.getD zV).n),.string ((pd.getD zV).s)])]⟩,⟨some (.row (.slice A2 len c2) 38 3 (vrows (x.args.map (nK env)))),[]⟩],[],[[],[],[0],[0,1,2]],h3⟩
  have hmono:∀ zq∈R.F,∀ zx zh zi,Sees zh zi→zq.2 zx zh→zq.2 zx zi:=lJ
  refine iY (by kernel_rfl) R hJ 4 [.pu,.ld 0 0,.pu,.st 1 0] (by kernel_rfl) hmono (fun _ _ _=>by kernel_rfl) (fun hT hA=>?_) ?_
  ·trivial
  clear hJ a w; intro gh h22 a w sR hJ1 hF; have s23:Sees h3 h22:=sR; clear sR
  have hJ:K ⟨35,h.w,h.bad,[]⟩ [(5,Vp b1),(4,.slice A2 len c2)] [.box b2 [Vi ((pd.getD zV).k),Vi ((pd.getD zV).n),.string ((pd.getD zV).s)],.box b1 [Vi ((pd.getD zV).k),Vi ((pd.getD zV).n),.string ((pd.getD zV).s)],.row (.slice A2 len c2) 38 3 (vrows (x.args.map (nK env)))] [] h22 a w:=hJ1.tw
  clear hJ1 hF hmono R
  clear gh
  refine rk' hJ false 2 [] [] (.k (.out .ret) [] [5,4] []) ?_
  clear hJ a w; intro a w hJ
  have fr:=hJ.j.rowOut0 (v:=.slice A2 len c2) (e:=38) (k:=3) (l:=vrows (x.args.map (nK env))) 2 (by kernel_rfl) rfl
  refine zX (hQ [.slice A2 len c2,.agg #[Vi ((pd.getD zV).k),Vi ((pd.getD zV).n),.string ((pd.getD zV).s)]] _ [] hJ (.rtm hJ.j (.rcel hJ.j 1 .nil)) (fJ _) rfl ?_).1
  exact ⟨A2,len,c2,pd.getD zV,rfl,by rw [hlk]; rfl,fun _=>⟨rfl,fr⟩⟩
end Go.Proofs.YthckljafinhepaaGreat
namespace Go.Proofs.YthckljafinhepaaGreat
open Go.RowKit
theorem first_known {v:Vl} (h:OkV v) (hk:(iQ v).2=true):(iQ v).1=v∧v.k=2∧(v.n=0∨v.n=1):=by
 unfold iQ at hk ⊢
 split at hk
 ·cases hk
 ·rename_i h13
  rw [if_neg h13]
  have h2:v.k=2:=by simpa using hk
  refine ⟨rfl,h2,?_⟩
  rcases h with h | h | h
  ·rcases h with h | h | h
   ·omega
   ·exact h.2.1
   ·omega
  ·rw [h] at h2; cases h2
  ·omega
theorem hd_eval {env:Env} {l:List Ex} {i:Nat} {y:Ex} (h:l[i]?=some y):hdV (oK env l) i=nK env y:=by
 unfold hdV
 rw [pK,List.getD_eq_getElem?_getD,List.getElem?_map,h]; rfl
theorem of_lookup {env:Env} {s:ByteArray} {v:Vl} (h:env.get s=some v):∃ i,mfind .string (.string s) (mK env)=some (some (i,v.val)):=mfind_some (by rw [sget_env,h]; rfl)
theorem of_miss {env:Env} {s:ByteArray} (h:env.get s=none):mfind .string (.string s) (mK env)=some none:=mfind_none (by rw [sget_env,h]; rfl)
theorem args_at {h:Vw} {x:Ex} {vs:List Value} (hvs:AllArgs h x.args vs) {i:Nat} (hi:i < x.args.length):∃ y A n c,x.args[i]?=some y∧IsArgs h y (.slice A n c)∧(sK x.args vs)[i]?=some (exRow y (.slice A n c)):=by
 obtain ⟨y,hy⟩:∃ y,x.args[i]?=some y:=⟨_,List.getElem?_eq_getElem hi⟩
 obtain ⟨u,hu⟩:∃ u,vs[i]?=some u:=⟨_,List.getElem?_eq_getElem (by rw [hvs.len]; exact hi)⟩
 have hyu:=AllArgs.get hvs hy hu
 obtain ⟨A,n,c,rfl⟩:=hyu.slice
 exact ⟨y,A,n,c,hy,hyu,by show (List.zipWith exRow _ _)[i]?=_; rw [List.getElem?_zipWith,hy,hu]⟩
theorem of_any (env:Env) (he:EnvOk env) (b:Nat):∀ (m:Nat) (x:Ex) (sl:Value) (h:Vw),(szE x).1≤m→IsArgs h x sl→WfE x→MapAt h b (mK env) →
  C0 Tryz.prog 89 #[.map (some b),.agg #[.int .i64 x.op,.int .i64 x.k,.int .i64 x.n,.string x.s,.string x.nm,sl]] h (fun r _=>r=(nK env x).val)
 | 0,x,sl,h,hm,_,_,_=>by have:=szE_pos x; omega
 | m + 1,x,sl,h,hm,hx,hw,hmp=>by
  have IH:=of_any env he b m
  have hse:=szE_eq x
  rw [hse] at hm
  simp only at hm
  have hwl:=hw.list
  have hof:OfAll env b x.args:=fun y hy v H hyv hM=>IH y v H (by have:=(szL_mem hy).1; omega) hyv (hwl.get hy) hM
  have hok:∀ y∈x.args,OkV (nK env y):=fun y hy=>evalE_ok he _ y (Nat.le_refl _) (hwl.get hy)
  have hev:=evalE_eq env x
  obtain ⟨A,len,c,rfl⟩:=hx.slice
  rcases hw.top with ⟨h1,h2,h3,h4,h5⟩ | ⟨h1,h2,h3,h4,h5,h6⟩ | ⟨h1,h2,h3,h4,h5,h6,h7⟩
  ·rw [if_pos h1] at hev
   rw [hev,h1]
   refine yX Tryz.func89 (c:=Tryz.f89.body.getD .skip) (N:=93) ?_
   intro hbx hbad Q hQ a w hJ
   refine rx' hJ false 31 [.own,.own,.b 1 0,.b 1 1,.b 0 0] [] (.new fun b1=>.new fun b2=>.ok (.out .ret) [] [(4,Vp b2)] [.box b2 [Vi x.k,Vi x.n,.string x.s],.box b1 [Vi 1,Vi x.k,Vi x.n,.string x.s,.string x.nm,.slice A len c]] []) (fun b1 b2 _=>by kernel_rfl) ?_
   clear hJ a w; intro b1 b2 a w hJ
   refine zX (hQ [.agg #[Vi x.k,Vi x.n,.string x.s]] _ [] hJ (.rcel hJ.j 0 .nil) (fJ _) rfl ?_).1
   exact rfl
  ·rw [if_neg (by omega),if_pos h1] at hev
   rw [h1]
   cases hg:env.get x.nm with
   | none =>
    rw [hg] at hev
    have hl:=of_miss hg
    rw [hev]
    refine yX Tryz.func89 (c:=Tryz.f89.body.getD .skip) (N:=93) ?_
    intro hbx hbad Q hQ a w hJ
    refine rx' hJ false 34 [.own,.own,.b 1 0,.b 1 4] [] (.new fun b1=>.new fun b2=>.ok (.ops [0,0,0,1,1,1,0,1,0,1] 3) [.seq [1,0,0,1,1,1,0,1,0,1],.seq [1,0,1,1,1,0,1,0,1],.block 0,.seq [1,1]] [(4,Vp b2),(22,.map (some b)),(24,.string x.nm)] [.box b2 [Vi 0,Vi 0,Ve],.box b1 [Vi 2,Vi x.k,Vi x.n,.string x.s,.string x.nm,.slice A len c]] []) (fun b1 b2 _=>by kernel_rfl) ?_
    clear hJ a w; intro b1 b2 a w hJ
    refine fY hJ 25 (b:=b) (t:=140) (mo:=(.tmp 22)) (ko:=(.tmp 24)) (c:=true) (es:=mK env) (kt:=9) (et:=38) (td:=.string) (key:=.string x.nm) (z:=.agg #[Vi 0,Vi 0,Ve]) (v:=.tuple #[.agg #[Vi 0,Vi 0,Ve],.bool false]) (r:=none) (MapAt.now (hmp.sees (Sees.refl _)) hJ) Tryz.underlying140 Tryz.underlying9 (hl) ?_; clear hJ a w; intro a w hJ
    refine rx' hJ false 25 [.own,.b 0 0,.cl 109 #[Vi 5] (.agg #[Vi 5,Vi 5,Ve]),.b 1 0] [] (.new fun b3=>.ok (.out .ret) [] [(4,Vp b2)] [.box b3 [Vi 0,Vi 0,Ve],.box b2 [Vi 5,Vi 5,Ve],.box b1 [Vi 2,Vi x.k,Vi x.n,.string x.s,.string x.nm,.slice A len c]] []) (ho:=And.intro (fun H sH=>yK 5 _) (trivial)) (fun b3 _=>by kernel_rfl) ?_
    clear hJ a w; intro b3 a w hJ
    refine zX (hQ [.agg #[Vi 5,Vi 5,Ve]] _ [] hJ (.rcel hJ.j 1 .nil) (fJ _) rfl ?_).1
    exact rfl
   | some u =>
    rw [hg] at hev
    obtain ⟨i,hl⟩:=of_lookup hg
    rw [hev]
    refine yX Tryz.func89 (c:=Tryz.f89.body.getD .skip) (N:=93) ?_
    intro hbx hbad Q hQ a w hJ
    refine rx' hJ false 34 [.own,.own,.b 1 0,.b 1 4] [] (.new fun b1=>.new fun b2=>.ok (.ops [0,0,0,1,1,1,0,1,0,1] 3) [.seq [1,0,0,1,1,1,0,1,0,1],.seq [1,0,1,1,1,0,1,0,1],.block 0,.seq [1,1]] [(4,Vp b2),(22,.map (some b)),(24,.string x.nm)] [.box b2 [Vi 0,Vi 0,Ve],.box b1 [Vi 2,Vi x.k,Vi x.n,.string x.s,.string x.nm,.slice A len c]] []) (fun b1 b2 _=>by kernel_rfl) ?_
    clear hJ a w; intro b1 b2 a w hJ
    refine fY hJ 25 (b:=b) (t:=140) (mo:=(.tmp 22)) (ko:=(.tmp 24)) (c:=true) (es:=mK env) (kt:=9) (et:=38) (td:=.string) (key:=.string x.nm) (z:=.agg #[Vi 0,Vi 0,Ve]) (v:=.tuple #[.agg #[Vi u.k,Vi u.n,.string u.s],.bool true]) (r:=some (i,.agg #[Vi u.k,Vi u.n,.string u.s])) (MapAt.now (hmp.sees (Sees.refl _)) hJ) Tryz.underlying140 Tryz.underlying9 (hl) ?_; clear hJ a w; intro a w hJ
    refine rx' hJ false 24 [.own,.b 0 0,.b 0 0,.b 1 0] [] (.new fun b3=>.ok (.out .ret) [] [(4,Vp b2)] [.box b3 [Vi u.k,Vi u.n,.string u.s],.box b2 [Vi u.k,Vi u.n,.string u.s],.box b1 [Vi 2,Vi x.k,Vi x.n,.string x.s,.string x.nm,.slice A len c]] []) (fun b3 _=>by kernel_rfl) ?_
    clear hJ a w; intro b3 a w hJ
    refine zX (hQ [.agg #[Vi u.k,Vi u.n,.string u.s]] _ [] hJ (.rcel hJ.j 1 .nil) (fJ _) rfl ?_).1
    exact rfl
  ·rw [if_neg (by omega),if_neg (by omega)] at hev
   have hap:=arity_pos h1 h2
   obtain ⟨vs,hr,hvs⟩:=hx.form
   obtain ⟨A',c',e',-⟩:=hr.form
   rw [tK hvs.len] at e'
   simp only [Value.slice.injEq] at e'
   obtain ⟨rfl,rfl,rfl⟩:=e'
   by_cases h15:x.op=15∨x.op=16
   ·have ha:arity x.op=2:=by unfold arity; rw [if_neg (by omega),if_neg (by omega),if_neg (by omega)]
    obtain ⟨y0,A0,n0,c0,hy0,-,-⟩:=args_at hvs (i:=0) (by omega)
    obtain ⟨y1,A1,n1,c1,hy1,hi1,hrow1⟩:=args_at hvs (i:=1) (by omega)
    have ok0:=hok y0 (List.mem_of_getElem? hy0)
    have ok1:=hok y1 (List.mem_of_getElem? hy1)
    have hf:=fun H q1 q2=>first_any env b x y0 (.slice A x.args.length c) H q1 q2 hy0 hof ok0
    have hb:=fun H q1 q2=>bool_any env b y1 (.slice A1 n1 c1) H q1 q2 (hof y1 (List.mem_of_getElem? hy1)) ok1
    rw [if_pos h15,hd_eval hy0,hd_eval hy1] at hev
    have hlen:1 < x.args.length:=by omega
    have hfk:=first_known ok0
    generalize hF:iQ (nK env y0)=f at *
    obtain ⟨⟨fk,fn,fs⟩,fb⟩:=f
    simp only at hev hfk hf
    rcases h15 with h15 | h15
    ·have ho:(x.op == 16)=false:=by rw [h15]; rfl
     rw [ho] at hev
     rw [h15] at hf ⊢
     cases fb with
     | false =>
      rw [if_pos (.inl rfl)] at hev
      rw [hev]
      refine yX Tryz.func89 (c:=Tryz.f89.body.getD .skip) (N:=93) ?_
      intro hbx hbad Q hQ a w hJ
      refine rx' hJ false 79 [.own,.own,.b 1 0,.b 1 0,.cl 110 #[.map (some b),.agg #[Vi 15,Vi x.k,Vi x.n,.string x.s,.string x.nm,.slice A x.args.length c]] (.tuple #[.agg #[Vi fk,Vi fn,.string fs],.bool false]),.own,.b 0 0,.b 0 0,.b 1 0] [] (.new fun b1=>.new fun b2=>.new fun b3=>.ok (.out .ret) [] [(4,Vp b2)] [.box b3 [Vi fk,Vi fn,.string fs],.box b2 [Vi fk,Vi fn,.string fs],.box b1 [Vi 15,Vi x.k,Vi x.n,.string x.s,.string x.nm,.slice A x.args.length c]] []) (ho:=And.intro (fun H sH=>hf _ (hx.sees sH) (hmp.sees sH)) (trivial)) (fun b1 b2 b3 _=>by kernel_rfl) ?_
      clear hJ a w; intro b1 b2 b3 a w hJ
      refine zX (hQ [.agg #[Vi fk,Vi fn,.string fs]] _ [] hJ (.rcel hJ.j 1 .nil) (fJ _) rfl ?_).1
      exact rfl
     | true =>
      obtain ⟨e1,e2,e3⟩:=hfk rfl
      rw [← e1] at e2 e3
      simp only at e2 e3
      subst e2
      rcases e3 with rfl | rfl
      ·rw [if_pos (.inr (by decide))] at hev
       rw [hev]
       refine yX Tryz.func89 (c:=Tryz.f89.body.getD .skip) (N:=93) ?_
       intro hbx hbad Q hQ a w hJ
       refine rx' hJ false 79 [.own,.own,.b 1 0,.b 1 0,.cl 110 #[.map (some b),.agg #[Vi 15,Vi x.k,Vi x.n,.string x.s,.string x.nm,.slice A x.args.length c]] (.tuple #[.agg #[Vi 2,Vi 0,.string fs],.bool true]),.own,.b 0 0,.b 0 1,.b 2 0,.b 0 0,.b 1 0] [] (.new fun b1=>.new fun b2=>.new fun b3=>.ok (.out .ret) [] [(4,Vp b2)] [.box b3 [Vi 2,Vi 0,.string fs],.box b2 [Vi 2,Vi 0,.string fs],.box b1 [Vi 15,Vi x.k,Vi x.n,.string x.s,.string x.nm,.slice A x.args.length c]] []) (ho:=And.intro (fun H sH=>hf _ (hx.sees sH) (hmp.sees sH)) (trivial)) (fun b1 b2 b3 _=>by kernel_rfl) ?_
       clear hJ a w; intro b1 b2 b3 a w hJ
       refine zX (hQ [.agg #[Vi 2,Vi 0,.string fs]] _ [] hJ (.rcel hJ.j 1 .nil) (fJ _) rfl ?_).1
       exact rfl
      ·rw [if_neg (by simp)] at hev
       rw [hev]
       refine yX Tryz.func89 (c:=Tryz.f89.body.getD .skip) (N:=93) ?_
       intro hbx hbad Q hQ a w hJ
       refine rx' hJ false 76 [.own,.own,.b 1 0,.b 1 0,.cl 110 #[.map (some b),.agg #[Vi 15,Vi x.k,Vi x.n,.string x.s,.string x.nm,.slice A x.args.length c]] (.tuple #[.agg #[Vi 2,Vi 1,.string fs],.bool true]),.own,.b 0 0,.b 0 1,.b 2 0,.b 2 5] [] (.new fun b1=>.new fun b2=>.new fun b3=>.ok (.ops [0,1,1,0,1,1,1,1,1,0,1,0,1] 3) [.seq [1,1,1,0,1,1,1,1,1,0,1,0,1],.block 0,.seq [1,1]] [(4,Vp b2),(52,.map (some b)),(54,.slice A x.args.length c)] [.box b3 [Vi 2,Vi 1,.string fs],.box b2 [Vi 0,Vi 0,Ve],.box b1 [Vi 15,Vi x.k,Vi x.n,.string x.s,.string x.nm,.slice A x.args.length c]] []) (ho:=And.intro (fun H sH=>hf _ (hx.sees sH) (hmp.sees sH)) (trivial)) (fun b1 b2 b3 _=>by kernel_rfl) ?_
       clear hJ a w; intro b1 b2 b3 a w hJ
       obtain ⟨b4,o5,rfl,-,c6⟩:=RS.row hr (hrow1)
       replace hJ:=hJ.fact (c6.sees (Sees.refl _))
       refine rk' hJ false 9 [.ix b4 o5 x.args.length c 1,.f 0 0,.cl 111 #[.map (some b),.agg #[Vi y1.op,Vi y1.k,Vi y1.n,.string y1.s,.string y1.nm,.slice A1 n1 c1]] (.agg #[Vi ((aK (nK env y1)).k),Vi ((aK (nK env y1)).n),.string ((aK (nK env y1)).s)]),.b 1 0] [] (.f (.out .ret) [] [4] [] [.box b3 [Vi 2,Vi 1,.string fs],.box b2 [Vi ((aK (nK env y1)).k),Vi ((aK (nK env y1)).n),.string ((aK (nK env y1)).s)],.box b1 [Vi 15,Vi x.k,Vi x.n,.string x.s,.string x.nm,.slice (some ⟨b4,o5,none⟩) x.args.length c]] [.o 0]) (ho:=And.intro (by first | omega | (simp; omega)) (And.intro (fun H sH=>hb _ (hi1.sees sH) (hmp.sees sH)) (trivial))) ?_
       clear hJ a w; intro a w hJ
       refine zX (hQ [.agg #[Vi ((aK (nK env y1)).k),Vi ((aK (nK env y1)).n),.string ((aK (nK env y1)).s)]] _ [] hJ (.rcel hJ.j 1 .nil) (fJ _) rfl ?_).1
       exact rfl
    ·have ho:(x.op == 16)=true:=by rw [h15]; rfl
     rw [ho] at hev
     rw [h15] at hf ⊢
     cases fb with
     | false =>
      rw [if_pos (.inl rfl)] at hev
      rw [hev]
      refine yX Tryz.func89 (c:=Tryz.f89.body.getD .skip) (N:=93) ?_
      intro hbx hbad Q hQ a w hJ
      refine rx' hJ false 82 [.own,.own,.b 1 0,.b 1 0,.cl 110 #[.map (some b),.agg #[Vi 16,Vi x.k,Vi x.n,.string x.s,.string x.nm,.slice A x.args.length c]] (.tuple #[.agg #[Vi fk,Vi fn,.string fs],.bool false]),.own,.b 0 0,.b 0 0,.b 1 0] [] (.new fun b1=>.new fun b2=>.new fun b3=>.ok (.out .ret) [] [(4,Vp b2)] [.box b3 [Vi fk,Vi fn,.string fs],.box b2 [Vi fk,Vi fn,.string fs],.box b1 [Vi 16,Vi x.k,Vi x.n,.string x.s,.string x.nm,.slice A x.args.length c]] []) (ho:=And.intro (fun H sH=>hf _ (hx.sees sH) (hmp.sees sH)) (trivial)) (fun b1 b2 b3 _=>by kernel_rfl) ?_
      clear hJ a w; intro b1 b2 b3 a w hJ
      refine zX (hQ [.agg #[Vi fk,Vi fn,.string fs]] _ [] hJ (.rcel hJ.j 1 .nil) (fJ _) rfl ?_).1
      exact rfl
     | true =>
      obtain ⟨e1,e2,e3⟩:=hfk rfl
      rw [← e1] at e2 e3
      simp only at e2 e3
      subst e2
      rcases e3 with rfl | rfl
      ·rw [if_neg (by simp)] at hev
       rw [hev]
       refine yX Tryz.func89 (c:=Tryz.f89.body.getD .skip) (N:=93) ?_
       intro hbx hbad Q hQ a w hJ
       refine rx' hJ false 79 [.own,.own,.b 1 0,.b 1 0,.cl 110 #[.map (some b),.agg #[Vi 16,Vi x.k,Vi x.n,.string x.s,.string x.nm,.slice A x.args.length c]] (.tuple #[.agg #[Vi 2,Vi 0,.string fs],.bool true]),.own,.b 0 0,.b 0 1,.b 2 0,.b 2 5] [] (.new fun b1=>.new fun b2=>.new fun b3=>.ok (.ops [0,1,1,0,1,1,1,1,1,0,1,0,1] 3) [.seq [1,1,1,0,1,1,1,1,1,0,1,0,1],.block 0,.seq [1,1]] [(4,Vp b2),(52,.map (some b)),(54,.slice A x.args.length c)] [.box b3 [Vi 2,Vi 0,.string fs],.box b2 [Vi 0,Vi 0,Ve],.box b1 [Vi 16,Vi x.k,Vi x.n,.string x.s,.string x.nm,.slice A x.args.length c]] []) (ho:=And.intro (fun H sH=>hf _ (hx.sees sH) (hmp.sees sH)) (trivial)) (fun b1 b2 b3 _=>by kernel_rfl) ?_
       clear hJ a w; intro b1 b2 b3 a w hJ
       obtain ⟨b4,o5,rfl,-,c6⟩:=RS.row hr (hrow1)
       replace hJ:=hJ.fact (c6.sees (Sees.refl _))
       refine rk' hJ false 9 [.ix b4 o5 x.args.length c 1,.f 0 0,.cl 111 #[.map (some b),.agg #[Vi y1.op,Vi y1.k,Vi y1.n,.string y1.s,.string y1.nm,.slice A1 n1 c1]] (.agg #[Vi ((aK (nK env y1)).k),Vi ((aK (nK env y1)).n),.string ((aK (nK env y1)).s)]),.b 1 0] [] (.f (.out .ret) [] [4] [] [.box b3 [Vi 2,Vi 0,.string fs],.box b2 [Vi ((aK (nK env y1)).k),Vi ((aK (nK env y1)).n),.string ((aK (nK env y1)).s)],.box b1 [Vi 16,Vi x.k,Vi x.n,.string x.s,.string x.nm,.slice (some ⟨b4,o5,none⟩) x.args.length c]] [.o 0]) (ho:=And.intro (by first | omega | (simp; omega)) (And.intro (fun H sH=>hb _ (hi1.sees sH) (hmp.sees sH)) (trivial))) ?_
       clear hJ a w; intro a w hJ
       refine zX (hQ [.agg #[Vi ((aK (nK env y1)).k),Vi ((aK (nK env y1)).n),.string ((aK (nK env y1)).s)]] _ [] hJ (.rcel hJ.j 1 .nil) (fJ _) rfl ?_).1
       exact rfl
      ·rw [if_pos (.inr (by decide))] at hev
       rw [hev]
       refine yX Tryz.func89 (c:=Tryz.f89.body.getD .skip) (N:=93) ?_
       intro hbx hbad Q hQ a w hJ
       refine rx' hJ false 82 [.own,.own,.b 1 0,.b 1 0,.cl 110 #[.map (some b),.agg #[Vi 16,Vi x.k,Vi x.n,.string x.s,.string x.nm,.slice A x.args.length c]] (.tuple #[.agg #[Vi 2,Vi 1,.string fs],.bool true]),.own,.b 0 0,.b 0 1,.b 2 0,.b 0 0,.b 1 0] [] (.new fun b1=>.new fun b2=>.new fun b3=>.ok (.out .ret) [] [(4,Vp b2)] [.box b3 [Vi 2,Vi 1,.string fs],.box b2 [Vi 2,Vi 1,.string fs],.box b1 [Vi 16,Vi x.k,Vi x.n,.string x.s,.string x.nm,.slice A x.args.length c]] []) (ho:=And.intro (fun H sH=>hf _ (hx.sees sH) (hmp.sees sH)) (trivial)) (fun b1 b2 b3 _=>by kernel_rfl) ?_
       clear hJ a w; intro b1 b2 b3 a w hJ
       refine zX (hQ [.agg #[Vi 2,Vi 1,.string fs]] _ [] hJ (.rcel hJ.j 1 .nil) (fJ _) rfl ?_).1
       exact rfl
   ·by_cases h17:x.op=17
    ·have ha:x.args.length=3:=by rw [h7,h17]; rfl
     obtain ⟨y0,A0,n0,c0,hy0,-,-⟩:=args_at hvs (i:=0) (by omega)
     obtain ⟨y1,A1,n1,c1,hy1,hi1,hrow1⟩:=args_at hvs (i:=1) (by omega)
     obtain ⟨y2,A2,n2,c2,hy2,hi2,hrow2⟩:=args_at hvs (i:=2) (by omega)
     have ok0:=hok y0 (List.mem_of_getElem? hy0)
     have ho1:=hof y1 (List.mem_of_getElem? hy1)
     have ho2:=hof y2 (List.mem_of_getElem? hy2)
     have hf:=fun H q1 q2=>first_any env b x y0 (.slice A x.args.length c) H q1 q2 hy0 hof ok0
     rw [if_neg h15,if_pos h17,hd_eval hy0,hd_eval hy1,hd_eval hy2] at hev
     have hfk:=first_known ok0
     generalize hF:iQ (nK env y0)=f at *
     obtain ⟨⟨fk,fn,fs⟩,fb⟩:=f
     simp only at hev hfk hf
     rw [h17] at hf ⊢
     cases fb with
     | false =>
      rw [if_pos rfl] at hev
      rw [hev]
      refine yX Tryz.func89 (c:=Tryz.f89.body.getD .skip) (N:=93) ?_
      intro hbx hbad Q hQ a w hJ
      refine rx' hJ false 80 [.own,.own,.b 1 0,.b 1 0,.cl 110 #[.map (some b),.agg #[Vi 17,Vi x.k,Vi x.n,.string x.s,.string x.nm,.slice A x.args.length c]] (.tuple #[.agg #[Vi fk,Vi fn,.string fs],.bool false]),.own,.b 0 0,.b 0 0,.b 1 0] [] (.new fun b1=>.new fun b2=>.new fun b3=>.ok (.out .ret) [] [(4,Vp b2)] [.box b3 [Vi fk,Vi fn,.string fs],.box b2 [Vi fk,Vi fn,.string fs],.box b1 [Vi 17,Vi x.k,Vi x.n,.string x.s,.string x.nm,.slice A x.args.length c]] []) (ho:=And.intro (fun H sH=>hf _ (hx.sees sH) (hmp.sees sH)) (trivial)) (fun b1 b2 b3 _=>by kernel_rfl) ?_
      clear hJ a w; intro b1 b2 b3 a w hJ
      refine zX (hQ [.agg #[Vi fk,Vi fn,.string fs]] _ [] hJ (.rcel hJ.j 1 .nil) (fJ _) rfl ?_).1
      exact rfl
     | true =>
      rw [if_neg (by simp)] at hev
      obtain ⟨e1,e2,e3⟩:=hfk rfl
      rw [← e1] at e2 e3
      simp only at e2 e3
      subst e2
      rcases e3 with rfl | rfl
      ·rw [if_neg (by decide)] at hev
       rw [hev]
       refine yX Tryz.func89 (c:=Tryz.f89.body.getD .skip) (N:=93) ?_
       intro hbx hbad Q hQ a w hJ
       refine rx' hJ false 80 [.own,.own,.b 1 0,.b 1 0,.cl 110 #[.map (some b),.agg #[Vi 17,Vi x.k,Vi x.n,.string x.s,.string x.nm,.slice A x.args.length c]] (.tuple #[.agg #[Vi 2,Vi 0,.string fs],.bool true]),.own,.b 0 0,.b 2 5,.b 0 1] [] (.new fun b1=>.new fun b2=>.new fun b3=>.ok (.ops [0,1,1,0,1,1,1,1,1,1,1,0,1,0,1] 6) [.seq [1,1,1,0,1,1,1,1,1,1,1,0,1,0,1],.block 0,.seq [1,1]] [(4,Vp b2),(69,.map (some b)),(71,.slice A x.args.length c),(74,Vi 2)] [.box b3 [Vi 2,Vi 0,.string fs],.box b2 [Vi 0,Vi 0,Ve],.box b1 [Vi 17,Vi x.k,Vi x.n,.string x.s,.string x.nm,.slice A x.args.length c]] []) (ho:=And.intro (fun H sH=>hf _ (hx.sees sH) (hmp.sees sH)) (trivial)) (fun b1 b2 b3 _=>by kernel_rfl) ?_
       clear hJ a w; intro b1 b2 b3 a w hJ
       obtain ⟨b4,o5,rfl,-,c6⟩:=RS.row hr (hrow2)
       replace hJ:=hJ.fact (c6.sees (Sees.refl _))
       refine rk' hJ false 9 [.ix b4 o5 x.args.length c 2,.f 0 0,.cl 89 #[.map (some b),.agg #[Vi y2.op,Vi y2.k,Vi y2.n,.string y2.s,.string y2.nm,.slice A2 n2 c2]] (.agg #[Vi ((nK env y2).k),Vi ((nK env y2).n),.string ((nK env y2).s)]),.b 1 0] [] (.f (.out .ret) [] [4] [] [.box b3 [Vi 2,Vi 0,.string fs],.box b2 [Vi ((nK env y2).k),Vi ((nK env y2).n),.string ((nK env y2).s)],.box b1 [Vi 17,Vi x.k,Vi x.n,.string x.s,.string x.nm,.slice (some ⟨b4,o5,none⟩) x.args.length c]] [.o 0]) (ho:=And.intro (by first | omega | (simp; omega)) (And.intro (fun H sH=>ho2 _ _ (hi2.sees sH) (hmp.sees sH)) (trivial))) ?_
       clear hJ a w; intro a w hJ
       refine zX (hQ [.agg #[Vi ((nK env y2).k),Vi ((nK env y2).n),.string ((nK env y2).s)]] _ [] hJ (.rcel hJ.j 1 .nil) (fJ _) rfl ?_).1
       exact rfl
      ·rw [if_pos rfl] at hev
       rw [hev]
       refine yX Tryz.func89 (c:=Tryz.f89.body.getD .skip) (N:=93) ?_
       intro hbx hbad Q hQ a w hJ
       refine rx' hJ false 80 [.own,.own,.b 1 0,.b 1 0,.cl 110 #[.map (some b),.agg #[Vi 17,Vi x.k,Vi x.n,.string x.s,.string x.nm,.slice A x.args.length c]] (.tuple #[.agg #[Vi 2,Vi 1,.string fs],.bool true]),.own,.b 0 0,.b 2 5,.b 0 1] [] (.new fun b1=>.new fun b2=>.new fun b3=>.ok (.ops [0,1,1,0,1,1,1,1,1,1,1,0,1,0,1] 6) [.seq [1,1,1,0,1,1,1,1,1,1,1,0,1,0,1],.block 0,.seq [1,1]] [(4,Vp b2),(69,.map (some b)),(71,.slice A x.args.length c),(74,Vi 1)] [.box b3 [Vi 2,Vi 1,.string fs],.box b2 [Vi 0,Vi 0,Ve],.box b1 [Vi 17,Vi x.k,Vi x.n,.string x.s,.string x.nm,.slice A x.args.length c]] []) (ho:=And.intro (fun H sH=>hf _ (hx.sees sH) (hmp.sees sH)) (trivial)) (fun b1 b2 b3 _=>by kernel_rfl) ?_
       clear hJ a w; intro b1 b2 b3 a w hJ
       obtain ⟨b4,o5,rfl,-,c6⟩:=RS.row hr (hrow1)
       replace hJ:=hJ.fact (c6.sees (Sees.refl _))
       refine rk' hJ false 9 [.ix b4 o5 x.args.length c 1,.f 0 0,.cl 89 #[.map (some b),.agg #[Vi y1.op,Vi y1.k,Vi y1.n,.string y1.s,.string y1.nm,.slice A1 n1 c1]] (.agg #[Vi ((nK env y1).k),Vi ((nK env y1).n),.string ((nK env y1).s)]),.b 1 0] [] (.f (.out .ret) [] [4] [] [.box b3 [Vi 2,Vi 1,.string fs],.box b2 [Vi ((nK env y1).k),Vi ((nK env y1).n),.string ((nK env y1).s)],.box b1 [Vi 17,Vi x.k,Vi x.n,.string x.s,.string x.nm,.slice (some ⟨b4,o5,none⟩) x.args.length c]] [.o 0]) (ho:=And.intro (by first | omega | (simp; omega)) (And.intro (fun H sH=>ho1 _ _ (hi1.sees sH) (hmp.sees sH)) (trivial))) ?_
       clear hJ a w; intro a w hJ
       refine zX (hQ [.agg #[Vi ((nK env y1).k),Vi ((nK env y1).n),.string ((nK env y1).s)]] _ [] hJ (.rcel hJ.j 1 .nil) (fJ _) rfl ?_).1
       exact rfl
    ·rw [if_neg h15,if_neg h17] at hev
     have hall:=fun H q1 q2=>all_any env b x (.slice A x.args.length c) H q1 q2 hof (by omega)
     have hlv:(oK env x.args).length=arity x.op:=by rw [pK,List.length_map,h7]
     have hvk:∀ v∈oK env x.args,OkV v:=fun v hv=>by
      rw [pK] at hv
      obtain ⟨y,hy,rfl⟩:=List.mem_map.1 hv
      exact hok y hy
     rcases hk:zQ none (oK env x.args) with _ | u
     ·rw [hk] at hev hall
      obtain ⟨-,g⟩:=lack_none hk
      have hap2:=fun sl H q=>apply_any x.op (oK env x.args) sl H q (fun v hv=>ok_known (hvk v hv) (g v hv).2 (g v hv).1) h1 h2 (by omega) (by omega) h17 hlv
      rw [hev]
      refine yX Tryz.func89 (c:=Tryz.f89.body.getD .skip) (N:=93) ?_
      intro hbx hbad Q hQ a w hJ
      refine rx' hJ false 57 [.own,.own,.b 1 0,.b 1 5] [(16,.bool (x.op == 1),.bool false),(20,.bool (x.op == 2),.bool false),(32,.bool (x.op == 15),.bool false),(33,.bool (x.op == 16),.bool false),(59,.bool (x.op == 17),.bool false)] (.new fun b1=>.new fun b2=>.ok (.ops [0,1,1] 3) [.seq [1,1,1]] [(3,Vp b1),(4,Vp b2),(79,.map (some b)),(81,.slice A x.args.length c)] [.box b2 [Vi 0,Vi 0,Ve],.box b1 [Vi x.op,Vi x.k,Vi x.n,.string x.s,.string x.nm,.slice A x.args.length c]] []) (hc:=And.intro (congrArg Value.bool (beq_eq_false_iff_ne.2 (by omega))) (And.intro (congrArg Value.bool (beq_eq_false_iff_ne.2 (by omega))) (And.intro (congrArg Value.bool (beq_eq_false_iff_ne.2 (by omega))) (And.intro (congrArg Value.bool (beq_eq_false_iff_ne.2 (by omega))) (And.intro (congrArg Value.bool (beq_eq_false_iff_ne.2 (by omega))) (trivial)))))) (fun b1 b2 _=>by kernel_rfl) ?_
      clear hJ a w; intro b1 b2 a w hJ
      refine wX hJ 82 (hall _ (hx.sees hJ.j.sees) (hmp.sees hJ.j.sees)) (fun _=>by kernel_rfl) ?_; clear hJ a w; rintro _ h3 a w s4 ⟨Aq,nq,cq,uq,rfl,rfl,hq⟩ hJ
      refine rx' hJ false 24 [.own,.b 0 0,.b 0 0,.b 2 0] [] (.new fun b5=>.ok (.ops [0,1,1,1,1] 3) [.seq [1,1,1,1,1]] [(4,Vp b2),(90,Vi x.op),(91,.slice Aq nq cq)] [.box b5 [Vi 0,Vi 0,Ve],.box b2 [Vi 0,Vi 0,Ve],.box b1 [Vi x.op,Vi x.k,Vi x.n,.string x.s,.string x.nm,.slice A x.args.length c]] []) (fun b5 _=>by kernel_rfl) ?_
      clear hJ a w; intro b5 a w hJ
      have hq2:=(hq rfl).2
      refine rx' hJ false 5 [.cl 113 #[Vi x.op,.slice Aq nq cq] (.agg #[Vi ((oJ x.op (oK env x.args)).k),Vi ((oJ x.op (oK env x.args)).n),.string ((oJ x.op (oK env x.args)).s)]),.b 1 0] [] (.ok (.out .ret) [] [(4,Vp b2)] [.box b5 [Vi 0,Vi 0,Ve],.box b2 [Vi ((oJ x.op (oK env x.args)).k),Vi ((oJ x.op (oK env x.args)).n),.string ((oJ x.op (oK env x.args)).s)],.box b1 [Vi x.op,Vi x.k,Vi x.n,.string x.s,.string x.nm,.slice A x.args.length c]] []) (ho:=And.intro (fun H sH=>hap2 _ _ (hq2.sees sH)) (trivial)) (fun _=>by kernel_rfl) ?_
      clear hJ a w; intro a w hJ
      refine zX (hQ [.agg #[Vi ((oJ x.op (oK env x.args)).k),Vi ((oJ x.op (oK env x.args)).n),.string ((oJ x.op (oK env x.args)).s)]] _ [] hJ (.rcel hJ.j 1 .nil) (fJ _) rfl ?_).1
      exact rfl
     ·rw [hk] at hev hall
      obtain ⟨hu45,-⟩:=lack_some hk (fun w hw=>by cases hw)
      rw [hev]
      refine yX Tryz.func89 (c:=Tryz.f89.body.getD .skip) (N:=93) ?_
      intro hbx hbad Q hQ a w hJ
      refine rx' hJ false 57 [.own,.own,.b 1 0,.b 1 5] [(16,.bool (x.op == 1),.bool false),(20,.bool (x.op == 2),.bool false),(32,.bool (x.op == 15),.bool false),(33,.bool (x.op == 16),.bool false),(59,.bool (x.op == 17),.bool false)] (.new fun b1=>.new fun b2=>.ok (.ops [0,1,1] 3) [.seq [1,1,1]] [(3,Vp b1),(4,Vp b2),(79,.map (some b)),(81,.slice A x.args.length c)] [.box b2 [Vi 0,Vi 0,Ve],.box b1 [Vi x.op,Vi x.k,Vi x.n,.string x.s,.string x.nm,.slice A x.args.length c]] []) (hc:=And.intro (congrArg Value.bool (beq_eq_false_iff_ne.2 (by omega))) (And.intro (congrArg Value.bool (beq_eq_false_iff_ne.2 (by omega))) (And.intro (congrArg Value.bool (beq_eq_false_iff_ne.2 (by omega))) (And.intro (congrArg Value.bool (beq_eq_false_iff_ne.2 (by omega))) (And.intro (congrArg Value.bool (beq_eq_false_iff_ne.2 (by omega))) (trivial)))))) (fun b1 b2 _=>by kernel_rfl) ?_
      clear hJ a w; intro b1 b2 a w hJ
      refine wX hJ 82 (hall _ (hx.sees hJ.j.sees) (hmp.sees hJ.j.sees)) (fun _=>by kernel_rfl) ?_; clear hJ a w; rintro _ h3 a w s4 ⟨Aq,nq,cq,uq,rfl,rfl,hq⟩ hJ
      refine rx' hJ false 25 [.own,.b 0 0,.b 0 0,.b 0 0,.b 1 0] [(87,.bool (u.k != 0),.bool true)] (.new fun b5=>.ok (.out .ret) [] [(4,Vp b2)] [.box b5 [Vi u.k,Vi u.n,.string u.s],.box b2 [Vi u.k,Vi u.n,.string u.s],.box b1 [Vi x.op,Vi x.k,Vi x.n,.string x.s,.string x.nm,.slice A x.args.length c]] []) (hc:=And.intro (congrArg Value.bool (bne_iff_ne.2 (by omega))) (trivial)) (fun b5 _=>by kernel_rfl) ?_
      clear hJ a w; intro b5 a w hJ
      refine zX (hQ [.agg #[Vi u.k,Vi u.n,.string u.s]] _ [] hJ (.rcel hJ.j 1 .nil) (fJ _) rfl ?_).1
      exact rfl
end Go.Proofs.YthckljafinhepaaGreat
namespace Go.Proofs.YthckljafinhepaaGreat
open Go.RowKit
theorem check_pending (h:Vw):C0 Tryz.prog 71 #[.agg #[.int .i64 4,.int .i64 0,.string ⟨#[]⟩]] h (fun v _=>v=.int .i64 0):=by
 refine yX Tryz.func71 (c:=Tryz.f71.body.getD .skip) (N:=50) ?_
 intro hbx hbad Q hQ a w hJ
 refine rx' hJ false 70 [.own,.b 0 0,.b 0 1,.b 0 2] [] (.new fun b1=>.ok (.out .ret) [] [(2,Vi 0)] [.box b1 [Vi 4,Vi 0,Ve]] []) (fun b1 _=>by kernel_rfl) ?_
 clear hJ a w; intro b1 a w hJ
 refine zX (hQ [Vi 0] _ [] hJ (.rtm hJ.j .nil) (fJ _) rfl ?_).1
 exact rfl
theorem check_fault (n:Int) (h:Vw) (h0:1≤n) (h1:n≤15):C0 Tryz.prog 71 #[.agg #[.int .i64 5,.int .i64 n,.string ⟨#[]⟩]] h (fun v _=>v=.int .i64 0):=by
 refine yX Tryz.func71 (c:=Tryz.f71.body.getD .skip) (N:=50) ?_
 intro hbx hbad Q hQ a w hJ
 refine rx' hJ false 82 [.own,.b 0 0,.b 0 1,.b 0 1,.b 0 2] [(41,.bool (decide (n < 1)),.bool false),(45,.bool (decide (n > 15)),.bool false)] (.new fun b1=>.ok (.out .ret) [] [(2,Vi 0)] [.box b1 [Vi 5,Vi n,Ve]] []) (hc:=And.intro (congrArg Value.bool (decide_eq_false (by omega))) (And.intro (congrArg Value.bool (decide_eq_false (by omega))) (trivial))) (fun b1 _=>by kernel_rfl) ?_
 clear hJ a w; intro b1 a w hJ
 refine zX (hQ [Vi 0] _ [] hJ (.rtm hJ.j .nil) (fJ _) rfl ?_).1
 exact rfl
theorem check_okv (v:Vl) (h:Vw) (hv:OkV v):C0 Tryz.prog 71 #[v.val] h (fun r _=>r=.int .i64 0):=by
 rcases hv with hv | rfl | ⟨h1,h2,h3,h4⟩
 ·exact C0.of_gives (fun w=>value_check v.k v.n v.s w hv) h
 ·exact check_pending h
 ·obtain ⟨k,n,s⟩:=v
  simp only at h1 h2 h3 h4
  subst h1 h4
  exact check_fault n h h2 h3
def addF (env:Env) (p:ByteArray × Vl):Env:=match env.get p.1 with
 | some _=>env
 | none=>env++[p]
def factsE (l:Env):Env:=l.foldl addF []
theorem factsE_snoc (l:Env) (p:ByteArray × Vl):factsE (l++[p])=addF (factsE l) p:=by unfold factsE; rw [List.foldl_append]; rfl
theorem envEs_snoc (l:Env) (p:ByteArray × Vl):mK (l++[p])=mK l++[(.string p.1,p.2.val)]:=by simp [mK,nX]
theorem facts_any (l:Env) (sl:Value) (h:Vw) (hr:RS h 7 sl (zK l)) (hok:∀ p∈l,OkV p.2) (hl:l.length≤1000) :
  C0 Tryz.prog 88 #[sl] h (fun v h'=>∃ b,v=.tuple #[.map (some b),.int .i64 0]∧MapAt h' b (mK (factsE l))):=by
 obtain ⟨A,cap,rfl,-,-,-⟩:=hr.form
 rw [List.length_map] at *
 generalize hL:l.length=len at *
 refine yX Tryz.func88 (c:=Tryz.f88.body.getD .skip) (N:=39) ?_
 intro hbx hbad Q hQ a w hJ
 refine rk' hJ false 8 [] [] (.k (.ops [0,1] 0) [.seq [1,1]] [0] []) ?_
 clear hJ a w; intro a w hJ
 refine x_mapmake hJ 10 (by kernel_rfl) (by kernel_rfl) ?_; clear hJ a w; intro b1 a w hJ
 refine rk' hJ false 12 [] [] (.k (.code [0,1,0,1,1]) [.block 0,.seq [1,1,1]] [] [(4,.map (some b1)),(11,.slice A len cap),(12,Vi (len:Int)),(13,Vi 0)]) ?_
 clear hJ a w; intro a w hJ
 refine eY (fun (k:Nat) a w=>∃ (h2:Vw) ,K ⟨39,h.w,h.bad,[]⟩ [(4,.map (some b1)),(11,.slice A len cap),(12,Vi (len:Int)),(13,Vi (k:Int))] [.map b1 (mK (factsE (l.take k)))] [] h2 a w∧Sees h h2∧(k≤len)) (fun k=>len - k) (0) ⟨h,hJ.tw,Sees.refl _,Nat.zero_le _⟩ ?_
 clear hJ a w; rintro k a w ⟨h2,hJ,s3,hk⟩
 refine rk' hJ false 6 [] [] (.k (.code [0,1,0,0,1,0,1,1]) [.seq [1,1,0,0,1,0,1,1]] [4,11,12,13] [(14,.bool (decide ((k:Int) < (len:Int))))]) ?_
 clear hJ a w; intro a w hJ
 rcases (by omega:k < len∨len=k) with hlt | hke
 ·obtain ⟨p,hp⟩:∃ p,l[k]?=some p:=⟨_,List.getElem?_eq_getElem (by omega)⟩
  have hrow:(zK l)[k]?=some (fcRow p):=by rw [List.getElem?_map,hp]; rfl
  have hck:=fun H=>check_okv p.2 H (hok p (List.mem_of_getElem? hp))
  have htk:factsE (l.take (k + 1))=addF (factsE (l.take k)) p:=by rw [pX l k p hp,factsE_snoc]
  generalize factsE (l.take k)=env at *
  cases hg:env.get p.1 with
  | some u =>
   obtain ⟨i,hi⟩:=of_lookup hg
   refine kY hJ (t:=decide ((k:Int) < (len:Int))) (decide_eq_true (by omega)) ?_
   refine rk' hJ false 6 [] [] (.k (.ops [0,0,0,1,1,0,0,1,0,1,1] 0) [.seq [1,0,0,1,1,0,0,1,0,1,1],.block 1,.seq [1,1,1,0,0,1,0,1,1]] [4,11,12,13] []) ?_
   clear hJ a w; intro a w hJ
   obtain ⟨b4,o5,rfl,-,c6⟩:=RS.row hr (hrow)
   replace hJ:=hJ.fact (c6.sees s3)
   refine rk hJ false 29 [.ix b4 o5 len cap k,.f 0 0,.own,.b 0 0,.b 0 4,.cl 71 #[.agg #[Vi p.2.k,Vi p.2.n,.string p.2.s]] (Vi 0),.b 0 0] [] (.new fun b7=>.f (.ops [0,1,1,0,0,1,1,0,0,1,0,1,1] 3) [.seq [1,1,1,0,0,1,1,0,0,1,0,1,1],.block 1,.seq [1,1,1,0,0,1,0,1,1]] [4,11,12,13] [(6,Vp b7),(24,.map (some b1)),(26,.string p.1)] [.box b7 [.string p.1,Vi 0,Vi 0,Ve,Vi p.2.k,Vi p.2.n,.string p.2.s],.map b1 (mK (env))] [.o 0]) (And.intro (by first | omega | (simp; omega)) (And.intro (fun H sH=>hck _) (trivial))) trivial (fun b7 _=>by kernel_rfl) ?_
   clear hJ a w; intro b7 a w hJ
   refine fY hJ 27 (b:=b1) (t:=137) (mo:=(.tmp 24)) (ko:=(.tmp 26)) (c:=true) (es:=mK (env)) (kt:=9) (et:=38) (td:=.string) (key:=.string p.1) (z:=.agg #[Vi 0,Vi 0,Ve]) (v:=.tuple #[.agg #[Vi u.k,Vi u.n,.string u.s],.bool true]) (r:=some (i,.agg #[Vi u.k,Vi u.n,.string u.s])) (hJ.map 1 (by kernel_rfl)) Tryz.underlying137 Tryz.underlying9 (hi) ?_; clear hJ a w; intro a w hJ
   refine rk hJ false 22 [.own,.b 0 0] [(37,Vi (IntKind.i64.wrap ((k:Int) + 1)),Vi ((k:Int) + 1))] (.new fun b8=>.f (.out .normal) [] [4,11,12] [(13,Vi ((k:Int) + 1))] [.box b8 [Vi u.k,Vi u.n,.string u.s],.box b7 [.string p.1,Vi 0,Vi 0,Ve,Vi p.2.k,Vi p.2.n,.string p.2.s],.map b1 (mK (env))] [.o 0]) trivial (And.intro (kJ (by omega) (by omega)) (trivial)) (fun b8 _=>by kernel_rfl) ?_
   clear hJ a w; intro b8 a w hJ
   replace hJ:=hJ.drop 1
   replace hJ:=hJ.drop 0
   exact jY ⟨k + 1,⟨h2,(hJ.tof [] (F':=[]) (by kernel_rfl)).to (by kernel_rfl) (by rw [htk]; unfold addF; rw [hg]; rfl) rfl,s3,by omega⟩,by omega⟩
  | none =>
   refine kY hJ (t:=decide ((k:Int) < (len:Int))) (decide_eq_true (by omega)) ?_
   refine rk' hJ false 6 [] [] (.k (.ops [0,0,0,1,1,0,0,1,0,1,1] 0) [.seq [1,0,0,1,1,0,0,1,0,1,1],.block 1,.seq [1,1,1,0,0,1,0,1,1]] [4,11,12,13] []) ?_
   clear hJ a w; intro a w hJ
   obtain ⟨b9,o10,rfl,-,c11⟩:=RS.row hr (hrow)
   replace hJ:=hJ.fact (c11.sees s3)
   refine rk hJ false 29 [.ix b9 o10 len cap k,.f 0 0,.own,.b 0 0,.b 0 4,.cl 71 #[.agg #[Vi p.2.k,Vi p.2.n,.string p.2.s]] (Vi 0),.b 0 0] [] (.new fun b12=>.f (.ops [0,1,1,0,0,1,1,0,0,1,0,1,1] 3) [.seq [1,1,1,0,0,1,1,0,0,1,0,1,1],.block 1,.seq [1,1,1,0,0,1,0,1,1]] [4,11,12,13] [(6,Vp b12),(24,.map (some b1)),(26,.string p.1)] [.box b12 [.string p.1,Vi 0,Vi 0,Ve,Vi p.2.k,Vi p.2.n,.string p.2.s],.map b1 (mK (env))] [.o 0]) (And.intro (by first | omega | (simp; omega)) (And.intro (fun H sH=>hck _) (trivial))) trivial (fun b12 _=>by kernel_rfl) ?_
   clear hJ a w; intro b12 a w hJ
   refine fY hJ 27 (b:=b1) (t:=137) (mo:=(.tmp 24)) (ko:=(.tmp 26)) (c:=true) (es:=mK (env)) (kt:=9) (et:=38) (td:=.string) (key:=.string p.1) (z:=.agg #[Vi 0,Vi 0,Ve]) (v:=.tuple #[.agg #[Vi 0,Vi 0,Ve],.bool false]) (r:=none) (hJ.map 1 (by kernel_rfl)) Tryz.underlying137 Tryz.underlying9 (of_miss hg) ?_; clear hJ a w; intro a w hJ
   refine rx' hJ false 21 [.own,.b 0 0,.b 1 0,.b 1 4] [] (.new fun b13=>.ok (.ops [0,1,1,1,1,0,0,1,1,0,0,1,0,1,1] 5) [.block 1,.seq [1,1,1,0,0,1,0,1,1]] [(4,.map (some b1)),(11,.slice (some ⟨b9,o10,none⟩) len cap),(12,Vi (len:Int)),(13,Vi (k:Int)),(32,.map (some b1)),(34,.string p.1),(36,.agg #[Vi p.2.k,Vi p.2.n,.string p.2.s])] [.box b13 [Vi 0,Vi 0,Ve],.box b12 [.string p.1,Vi 0,Vi 0,Ve,Vi p.2.k,Vi p.2.n,.string p.2.s],.map b1 (mK (env))] [(b9,o10 + k * 7,[.string p.1,Vi 0,Vi 0,Ve,Vi p.2.k,Vi p.2.n,.string p.2.s])]) (fun b13 _=>by kernel_rfl) ?_
   clear hJ a w; intro b13 a w hJ
   refine gY hJ 2 (b:=b1) (t:=137) (mo:=(.tmp 32)) (ko:=(.tmp 34)) (vo:=(.tmp 36)) (es:=mK (env)) (kt:=9) (et:=38) (td:=.string) (key:=.string p.1) (v:=.agg #[Vi p.2.k,Vi p.2.n,.string p.2.s]) Tryz.underlying137 Tryz.underlying9 (hf:=of_miss hg) ?_; clear hJ a w; intro a w hJ
   refine rk' hJ false 7 [] [(37,Vi (IntKind.i64.wrap ((k:Int) + 1)),Vi ((k:Int) + 1))] (.k (.out .normal) [] [4,11,12] [(13,Vi ((k:Int) + 1))]) (hc:=And.intro (kJ (by omega) (by omega)) (trivial)) ?_
   clear hJ a w; intro a w hJ
   replace hJ:=hJ.drop 1
   replace hJ:=hJ.drop 0
   exact jY ⟨k + 1,⟨h2,(hJ.tof [] (F':=[]) (by kernel_rfl)).to (by kernel_rfl) (by rw [htk]; unfold addF; rw [hg]; simp only; rw [envEs_snoc]; rfl) rfl,s3,by omega⟩,by omega⟩
 ·skip
  have hta:l.take k=l:=by rw [← hke,← hL,List.take_length]
  rw [hta] at hJ
  refine aY hJ (t:=decide ((k:Int) < (len:Int))) (decide_eq_false (by omega)) ?_
  refine rk' hJ false 2 [] [] (.k (.out (.exit 0)) [] [4] []) ?_
  clear hJ a w; intro a w hJ
  refine dY rfl ?_
  refine rk' hJ false 10 [] [] (.k (.out .ret) [] [] [(2,.map (some b1)),(3,Vi 0)]) ?_
  clear hJ a w; intro a w hJ
  refine zX (hQ [.map (some b1),Vi 0] _ [] hJ (.rtm hJ.j (.rtm hJ.j .nil)) (fJ _) rfl ?_).1
  exact ⟨b1,rfl,hJ.mapOut 0 (by kernel_rfl) rfl⟩
theorem get_snoc (s:ByteArray) (p:ByteArray × Vl):∀ l:Env,Env.get (l++[p]) s=match Env.get l s with | some v=>some v | none=>if s == p.1 then some p.2 else none
 | []=>by show Env.get [p] s=_; obtain ⟨a,b⟩:=p; unfold Env.get; cases s == a <;> rfl
 | (k,v) :: l=>by
  show Env.get ((k,v) :: (l++[p])) s=_
  rw [Env.get,Env.get]
  cases s == k
  ·simp only [Bool.false_eq_true,if_false]; exact get_snoc s p l
  ·rfl
theorem get_addF (s:ByteArray) (p:ByteArray × Vl) (env:Env):(addF env p).get s=match env.get s with | some v=>some v | none=>if s == p.1 then some p.2 else none:=by
 unfold addF
 cases hg:env.get p.1 with
 | none=>simp only; exact get_snoc s p env
 | some u =>
  simp only
  cases hs:env.get s with
  | some v=>rfl
  | none =>
   simp only
   by_cases he:(s == p.1)=true
   ·have:s=p.1:=(Go.MapKept.bytes_beq _ _).1 he
    rw [this] at hs; rw [hs] at hg; cases hg
   ·rw [if_neg he]
theorem factsE_get (s:ByteArray):∀ l:Env,(factsE l).get s=l.get s:=by
 have key:∀ (l env:Env),(l.foldl addF env).get s=match env.get s with | some v=>some v | none=>l.get s:=by
  intro l
  induction l with
  | nil=>intro env; simp only [List.foldl_nil]; cases env.get s <;> rfl
  | cons p l ih =>
   intro env
   rw [List.foldl_cons,ih,get_addF]
   obtain ⟨k,v⟩:=p
   cases hs:env.get s with
   | some u=>rfl
   | none =>
    simp only
    rw [Env.get]
    cases s == k <;> rfl
 intro l
 exact key l []
theorem get_mem {s:ByteArray} {v:Vl}:∀ {l:Env},Env.get l s=some v→(s,v)∈l
 | [],h=>by cases h
 | (k,u) :: l,h=>by
  rw [Env.get] at h
  by_cases he:(s == k)=true
  ·rw [if_pos he] at h
   have:s=k:=(Go.MapKept.bytes_beq _ _).1 he
   simp only [Option.some.injEq] at h
   subst this h; simp
  ·rw [if_neg he] at h
   exact List.mem_cons_of_mem _ (get_mem h)
theorem factsE_ok {l:Env} (h:∀ p∈l,OkV p.2):EnvOk (factsE l):=fun s v hs=>by
 rw [factsE_get] at hs
 exact h _ (get_mem hs)
theorem ev_congr {e f:Env} (h:∀ s,e.get s=f.get s):∀ (m:Nat) (x:Ex),(szE x).1≤m→nK e x=nK f x
 | 0,x,hm=>by have:=szE_pos x; omega
 | m + 1,x,hm=>by
  have hse:=szE_eq x
  rw [hse] at hm
  simp only at hm
  have hl:oK e x.args=oK f x.args:=by
   rw [pK,pK]
   exact List.map_congr_left fun y hy=>ev_congr h m y (by have:=(szL_mem hy).1; omega)
  rw [evalE_eq e x,evalE_eq f x,hl,h]
theorem ev_facts (l:Env) (x:Ex):nK (factsE l) x=nK l x:=ev_congr (fun s=>factsE_get s l) _ x (Nat.le_refl _)
theorem eval_any (x:Ex) (v:Value) (l:Env) (sl:Value) (h:Vw) (hx:IsArgs h x v) (hw:WfE x) (hb:(szE x).1≤60) (hb2:(szE x).2≤12) (hr:RS h 7 sl (zK l)) (hok:∀ p∈l,OkV p.2) (hl:l.length≤1000) :
  C0 Tryz.prog 57 #[.agg #[.int .i64 x.op,.int .i64 x.k,.int .i64 x.n,.string x.s,.string x.nm,v],sl] h (fun r _=>r=.tuple #[(nK l x).val,.int .i64 0]):=by
 obtain ⟨A,na,ca,rfl⟩:=hx.slice
 obtain ⟨A2,c2,rfl,-,-,-⟩:=hr.form
 rw [List.length_map] at *
 have hck:=fun H hq=>check_any x (.slice A na ca) H hq hw (by omega)
 rw [show chkE x=0 from by unfold chkE; rw [if_neg (by omega),if_neg (by omega)]] at hck
 have hfa:=fun H hq=>facts_any l (.slice A2 l.length c2) H hq hok hl
 have hof:=fun b H q1 q2=>of_any (factsE l) (factsE_ok hok) b _ x (.slice A na ca) H (Nat.le_refl _) q1 hw q2
 rw [ev_facts] at hof
 refine yX Tryz.func57 (c:=Tryz.f57.body.getD .skip) (N:=27) ?_
 intro hbx hbad Q hQ a w hJ
 refine rx' hJ false 27 [.own,.own,.b 1 0,.cl 87 #[.agg #[Vi x.op,Vi x.k,Vi x.n,.string x.s,.string x.nm,.slice A na ca]] (Vi 0)] [] (.new fun b1=>.new fun b2=>.ok (.ops [0,1,1] 1) [.seq [1,1,1]] [(2,Vp b1),(4,Vp b2),(16,.slice A2 l.length c2)] [.box b2 [Vi 0,Vi 0,Ve],.box b1 [Vi x.op,Vi x.k,Vi x.n,.string x.s,.string x.nm,.slice A na ca]] []) (ho:=And.intro (fun H sH=>hck _ (hx.sees sH)) (trivial)) (fun b1 b2 _=>by kernel_rfl) ?_
 clear hJ a w; intro b1 b2 a w hJ
 refine wX hJ 17 (hfa _ (hr.sees hJ.j.sees)) (fun _=>by kernel_rfl) ?_; clear hJ a w; rintro _ h3 a w s4 ⟨bm,rfl,hmp⟩ hJ
 refine rk' hJ false 21 [.b 1 0] [] (.k (.ops [0,1,1,1,1] 2) [.seq [1,1,1,1,1]] [4] [(24,.map (some bm)),(25,.agg #[Vi x.op,Vi x.k,Vi x.n,.string x.s,.string x.nm,.slice A na ca])]) ?_
 clear hJ a w; intro a w hJ
 refine rx' hJ false 6 [.cl 89 #[.map (some bm),.agg #[Vi x.op,Vi x.k,Vi x.n,.string x.s,.string x.nm,.slice A na ca]] (.agg #[Vi ((nK l x).k),Vi ((nK l x).n),.string ((nK l x).s)]),.b 0 0] [] (.ok (.out .ret) [] [(4,Vp b2),(5,Vi 0)] [.box b2 [Vi ((nK l x).k),Vi ((nK l x).n),.string ((nK l x).s)],.box b1 [Vi x.op,Vi x.k,Vi x.n,.string x.s,.string x.nm,.slice A na ca]] []) (ho:=And.intro (fun H sH=>hof _ _ (hx.sees (s4.trans sH)) (hmp.sees sH)) (trivial)) (fun _=>by kernel_rfl) ?_
 clear hJ a w; intro a w hJ
 refine zX (hQ [.agg #[Vi ((nK l x).k),Vi ((nK l x).n),.string ((nK l x).s)],Vi 0] _ [] hJ (.rcel hJ.j 0 (.rtm hJ.j .nil)) (fJ _) rfl ?_).1
 exact rfl
end Go.Proofs.YthckljafinhepaaGreat
namespace Go.Proofs.YthckljafinhepaaGreat
open Go.RowKit
theorem env_hit (env:Env) (n:ByteArray) (v:Vl):Env.get ((n,v) :: env) n=some v:=by
 unfold Env.get
 rw [if_pos ((Go.MapKept.bytes_beq n n).2 rfl)]
theorem env_miss (env:Env) {n s:ByteArray} (v:Vl) (h:s≠n):Env.get ((n,v) :: env) s=env.get s:=by
 conv=>lhs; unfold Env.get
 rw [if_neg]
 intro hb
 exact h ((Go.MapKept.bytes_beq s n).1 hb)
def evalOp (g:Option Vl) (op k n:Int) (s:ByteArray) (vs:List Vl):Vl :=
 if op=1 then ⟨k,n,s⟩
 else if op=2 then (match g with | some v=>v | none=>xK 5)
 else if op=15∨op=16 then
  (if (iQ (hdV vs 0)).2=false∨((iQ (hdV vs 0)).1.n == 1)=(op == 16) then (iQ (hdV vs 0)).1 else aK (hdV vs 1))
 else if op=17 then
  (if (iQ (hdV vs 0)).2=false then (iQ (hdV vs 0)).1 else if (iQ (hdV vs 0)).1.n=1 then hdV vs 1 else hdV vs 2)
 else (match zQ none vs with | some v=>v | none=>oJ op vs)
theorem evalE_op (env:Env) (x:Ex):nK env x=evalOp (env.get x.nm) x.op x.k x.n x.s (oK env x.args):=by
 obtain ⟨a,b,c,d,e,l⟩:=x
 rw [nK]; rfl
theorem evalOp_get {g g':Option Vl} {op k n:Int} {s:ByteArray} {vs:List Vl} (h:op≠2):evalOp g op k n s vs=evalOp g' op k n s vs:=by
 unfold evalOp
 rw [if_neg h,if_neg h]
theorem eval_local {e1 e2:Env} {x:Ex} (h:∀ s∈sW x,e1.get s=e2.get s):nK e1 x=nK e2 x:=by
 revert h
 refine ex_ind (p:=fun x=>(∀ s∈sW x,e1.get s=e2.get s)→nK e1 x=nK e2 x) (fun x ih h=>?_) x
 rw [tW] at h
 have hl:oK e1 x.args=oK e2 x.args:=by
  rw [pK,pK]
  exact List.map_congr_left fun y hy=>ih y hy fun s hs=>h s (List.mem_append_right _ (mem_refsL.2 ⟨y,hy,hs⟩))
 rw [evalE_op,evalE_op,hl]
 by_cases h2:x.op=2
 ·rw [h x.nm (by rw [if_pos h2]; simp)]
 ·exact evalOp_get h2
def Grows (w v:Vl):Prop:=w.k=4∨v=w∨(v.k=5∧w.k=5)
theorem Grows.rfl' (v:Vl):Grows v v:=.inr (.inl rfl)
inductive GrowsL:List Vl→List Vl→Prop
 | nil:GrowsL [] []
 | cons {w v:Vl} {l m:List Vl} (h:Grows w v) (k:GrowsL l m):GrowsL (w :: l) (v :: m)
theorem GrowsL.hd {l m:List Vl} (h:GrowsL l m) (i:Nat):Grows (hdV l i) (hdV m i):=by
 induction h generalizing i with
 | nil=>exact .rfl' _
 | cons h k ih =>
  cases i with
  | zero=>exact h
  | succ i=>exact ih i
theorem GrowsL.map {f g:Ex→Vl}:∀ {l:List Ex},(∀ y∈l,Grows (f y) (g y))→GrowsL (l.map f) (l.map g)
 | [],_=>.nil
 | x :: l,h=>.cons (h x (by simp)) (GrowsL.map fun y hy=>h y (by simp [hy]))
end Go.Proofs.YthckljafinhepaaGreat
