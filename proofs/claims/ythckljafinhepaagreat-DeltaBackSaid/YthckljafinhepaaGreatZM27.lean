/-
  The contract of eval's machine: of.
-/
import Derived.Test.YthckljafinhepaaGreatZM26
set_option maxRecDepth 100000
namespace Go.Proofs.YthckljafinhepaaGreat
open Go.RowKit
theorem first_known {v:Vl} (h:OkV v) (hk:(jQ v).2=true):(jQ v).1=v∧v.k=2∧(v.n=0∨v.n=1):=by
 unfold jQ at hk ⊢
 split at hk
 ·cases hk
 ·rename_i h13
  rw [if_neg h13]
  have h2:v.k=2:=by simpa using hk
  refine ⟨rfl,h2,?_⟩
  rcases h with h | h | h
  ·rcases h with h | h | h
   ·omega
   ·exact h.2.1
   ·omega
  ·rw [h] at h2; cases h2
  ·omega
theorem hd_eval {env:Env} {l:List Ex} {i:Nat} {y:Ex} (h:l[i]?=some y):hdV (oK env l) i=nK env y:=by
 unfold hdV
 rw [pK,List.getD_eq_getElem?_getD,List.getElem?_map,h]; rfl
theorem of_lookup {env:Env} {s:ByteArray} {v:Vl} (h:env.get s=some v):∃ i,mfind .string (.string s) (mK env)=some (some (i,v.val)):=mfind_some (by rw [sget_env,h]; rfl)
theorem of_miss {env:Env} {s:ByteArray} (h:env.get s=none):mfind .string (.string s) (mK env)=some none:=mfind_none (by rw [sget_env,h]; rfl)
theorem args_at {h:Vw} {x:Ex} {vs:List Value} (hvs:AllArgs h x.args vs) {i:Nat} (hi:i < x.args.length):∃ y A n c,x.args[i]?=some y∧IsArgs h y (.slice A n c)∧(sK x.args vs)[i]?=some (exRow y (.slice A n c)):=by
 obtain ⟨y,hy⟩:∃ y,x.args[i]?=some y:=⟨_,List.getElem?_eq_getElem hi⟩
 obtain ⟨u,hu⟩:∃ u,vs[i]?=some u:=⟨_,List.getElem?_eq_getElem (by rw [hvs.len]; exact hi)⟩
 have hyu:=AllArgs.get hvs hy hu
 obtain ⟨A,n,c,rfl⟩:=hyu.slice
 exact ⟨y,A,n,c,hy,hyu,by show (List.zipWith exRow _ _)[i]?=_; rw [List.getElem?_zipWith,hy,hu]⟩
theorem of_any (env:Env) (he:EnvOk env) (b:Nat):∀ (m:Nat) (x:Ex) (sl:Value) (h:Vw),(szE x).1≤m→IsArgs h x sl→WfE x→MapAt h b (mK env) →
  C0 Tryz.prog 89 #[.map (some b),.agg #[.int .i64 x.op,.int .i64 x.k,.int .i64 x.n,.string x.s,.string x.nm,sl]] h (fun r _=>r=(nK env x).val)
 | 0,x,sl,h,hm,_,_,_=>by have:=szE_pos x; omega
 | m + 1,x,sl,h,hm,hx,hw,hmp=>by
  have IH:=of_any env he b m
  have hse:=szE_eq x
  rw [hse] at hm
  simp only at hm
  have hwl:=hw.list
  have hof:OfAll env b x.args:=fun y hy v H hyv hM=>IH y v H (by have:=(szL_mem hy).1; omega) hyv (hwl.get hy) hM
  have hok:∀ y∈x.args,OkV (nK env y):=fun y hy=>evalE_ok he _ y (Nat.le_refl _) (hwl.get hy)
  have hev:=evalE_eq env x
  obtain ⟨A,len,c,rfl⟩:=hx.slice
  rcases hw.top with ⟨h1,h2,h3,h4,h5⟩ | ⟨h1,h2,h3,h4,h5,h6⟩ | ⟨h1,h2,h3,h4,h5,h6,h7⟩
  ·rw [if_pos h1] at hev
   rw [hev,h1]
   refine fY Tryz.func89 (c:=Tryz.f89.body.getD .skip) (N:=93) ?_
   intro hbx hbad Q hQ a w hJ
   refine rx' hJ false 31 [.own,.own,.b 1 0,.b 1 1,.b 0 0] [] (.new fun b1=>.new fun b2=>.ok (.out .ret) [] [(4,Vp b2)] [.box b2 [Vi x.k,Vi x.n,.string x.s],.box b1 [Vi 1,Vi x.k,Vi x.n,.string x.s,.string x.nm,.slice A len c]] []) (fun b1 b2 _=>by kernel_rfl) ?_
   clear hJ a w; intro b1 b2 a w hJ
   refine gY (hQ [.agg #[Vi x.k,Vi x.n,.string x.s]] _ [] hJ (.rcel hJ.j 0 .nil) (fJ _) rfl ?_).1
   exact rfl
  ·rw [if_neg (by omega),if_pos h1] at hev
   rw [h1]
   cases hg:env.get x.nm with
   | none =>
    rw [hg] at hev
    have hl:=of_miss hg
    rw [hev]
    refine fY Tryz.func89 (c:=Tryz.f89.body.getD .skip) (N:=93) ?_
    intro hbx hbad Q hQ a w hJ
    refine rx' hJ false 34 [.own,.own,.b 1 0,.b 1 4] [] (.new fun b1=>.new fun b2=>.ok (.ops [0,0,0,1,1,1,0,1,0,1] 3) [.seq [1,0,0,1,1,1,0,1,0,1],.seq [1,0,1,1,1,0,1,0,1],.block 0,.seq [1,1]] [(4,Vp b2),(22,.map (some b)),(24,.string x.nm)] [.box b2 [Vi 0,Vi 0,Ve],.box b1 [Vi 2,Vi x.k,Vi x.n,.string x.s,.string x.nm,.slice A len c]] []) (fun b1 b2 _=>by kernel_rfl) ?_
    clear hJ a w; intro b1 b2 a w hJ
    refine lY hJ 25 (b:=b) (t:=140) (mo:=(.tmp 22)) (ko:=(.tmp 24)) (c:=true) (es:=mK env) (kt:=9) (et:=38) (td:=.string) (key:=.string x.nm) (z:=.agg #[Vi 0,Vi 0,Ve]) (v:=.tuple #[.agg #[Vi 0,Vi 0,Ve],.bool false]) (r:=none) (MapAt.now (hmp.sees (Sees.refl _)) hJ) Tryz.underlying140 Tryz.underlying9 (hl) ?_; clear hJ a w; intro a w hJ
    refine rx' hJ false 25 [.own,.b 0 0,.cl 109 #[Vi 5] (.agg #[Vi 5,Vi 5,Ve]),.b 1 0] [] (.new fun b3=>.ok (.out .ret) [] [(4,Vp b2)] [.box b3 [Vi 0,Vi 0,Ve],.box b2 [Vi 5,Vi 5,Ve],.box b1 [Vi 2,Vi x.k,Vi x.n,.string x.s,.string x.nm,.slice A len c]] []) (ho:=And.intro (fun H sH=>yK 5 _) (trivial)) (fun b3 _=>by kernel_rfl) ?_
    clear hJ a w; intro b3 a w hJ
    refine gY (hQ [.agg #[Vi 5,Vi 5,Ve]] _ [] hJ (.rcel hJ.j 1 .nil) (fJ _) rfl ?_).1
    exact rfl
   | some u =>
    rw [hg] at hev
    obtain ⟨i,hl⟩:=of_lookup hg
    rw [hev]
    refine fY Tryz.func89 (c:=Tryz.f89.body.getD .skip) (N:=93) ?_
    intro hbx hbad Q hQ a w hJ
    refine rx' hJ false 34 [.own,.own,.b 1 0,.b 1 4] [] (.new fun b1=>.new fun b2=>.ok (.ops [0,0,0,1,1,1,0,1,0,1] 3) [.seq [1,0,0,1,1,1,0,1,0,1],.seq [1,0,1,1,1,0,1,0,1],.block 0,.seq [1,1]] [(4,Vp b2),(22,.map (some b)),(24,.string x.nm)] [.box b2 [Vi 0,Vi 0,Ve],.box b1 [Vi 2,Vi x.k,Vi x.n,.string x.s,.string x.nm,.slice A len c]] []) (fun b1 b2 _=>by kernel_rfl) ?_
    clear hJ a w; intro b1 b2 a w hJ
    refine lY hJ 25 (b:=b) (t:=140) (mo:=(.tmp 22)) (ko:=(.tmp 24)) (c:=true) (es:=mK env) (kt:=9) (et:=38) (td:=.string) (key:=.string x.nm) (z:=.agg #[Vi 0,Vi 0,Ve]) (v:=.tuple #[.agg #[Vi u.k,Vi u.n,.string u.s],.bool true]) (r:=some (i,.agg #[Vi u.k,Vi u.n,.string u.s])) (MapAt.now (hmp.sees (Sees.refl _)) hJ) Tryz.underlying140 Tryz.underlying9 (hl) ?_; clear hJ a w; intro a w hJ
    refine rx' hJ false 24 [.own,.b 0 0,.b 0 0,.b 1 0] [] (.new fun b3=>.ok (.out .ret) [] [(4,Vp b2)] [.box b3 [Vi u.k,Vi u.n,.string u.s],.box b2 [Vi u.k,Vi u.n,.string u.s],.box b1 [Vi 2,Vi x.k,Vi x.n,.string x.s,.string x.nm,.slice A len c]] []) (fun b3 _=>by kernel_rfl) ?_
    clear hJ a w; intro b3 a w hJ
    refine gY (hQ [.agg #[Vi u.k,Vi u.n,.string u.s]] _ [] hJ (.rcel hJ.j 1 .nil) (fJ _) rfl ?_).1
    exact rfl
  ·rw [if_neg (by omega),if_neg (by omega)] at hev
   have hap:=arity_pos h1 h2
   obtain ⟨vs,hr,hvs⟩:=hx.form
   obtain ⟨A',c',e',-⟩:=hr.form
   rw [tK hvs.len] at e'
   simp only [Value.slice.injEq] at e'
   obtain ⟨rfl,rfl,rfl⟩:=e'
   by_cases h15:x.op=15∨x.op=16
   ·have ha:arity x.op=2:=by unfold arity; rw [if_neg (by omega),if_neg (by omega),if_neg (by omega)]
    obtain ⟨y0,A0,n0,c0,hy0,-,-⟩:=args_at hvs (i:=0) (by omega)
    obtain ⟨y1,A1,n1,c1,hy1,hi1,hrow1⟩:=args_at hvs (i:=1) (by omega)
    have ok0:=hok y0 (List.mem_of_getElem? hy0)
    have ok1:=hok y1 (List.mem_of_getElem? hy1)
    have hf:=fun H q1 q2=>first_any env b x y0 (.slice A x.args.length c) H q1 q2 hy0 hof ok0
    have hb:=fun H q1 q2=>bool_any env b y1 (.slice A1 n1 c1) H q1 q2 (hof y1 (List.mem_of_getElem? hy1)) ok1
    rw [if_pos h15,hd_eval hy0,hd_eval hy1] at hev
    have hlen:1 < x.args.length:=by omega
    have hfk:=first_known ok0
    generalize hF:jQ (nK env y0)=f at *
    obtain ⟨⟨fk,fn,fs⟩,fb⟩:=f
    simp only at hev hfk hf
    rcases h15 with h15 | h15
    ·have ho:(x.op == 16)=false:=by rw [h15]; rfl
     rw [ho] at hev
     rw [h15] at hf ⊢
     cases fb with
     | false =>
      rw [if_pos (.inl rfl)] at hev
      rw [hev]
      refine fY Tryz.func89 (c:=Tryz.f89.body.getD .skip) (N:=93) ?_
      intro hbx hbad Q hQ a w hJ
      refine rx' hJ false 79 [.own,.own,.b 1 0,.b 1 0,.cl 110 #[.map (some b),.agg #[Vi 15,Vi x.k,Vi x.n,.string x.s,.string x.nm,.slice A x.args.length c]] (.tuple #[.agg #[Vi fk,Vi fn,.string fs],.bool false]),.own,.b 0 0,.b 0 0,.b 1 0] [] (.new fun b1=>.new fun b2=>.new fun b3=>.ok (.out .ret) [] [(4,Vp b2)] [.box b3 [Vi fk,Vi fn,.string fs],.box b2 [Vi fk,Vi fn,.string fs],.box b1 [Vi 15,Vi x.k,Vi x.n,.string x.s,.string x.nm,.slice A x.args.length c]] []) (ho:=And.intro (fun H sH=>hf _ (hx.sees sH) (hmp.sees sH)) (trivial)) (fun b1 b2 b3 _=>by kernel_rfl) ?_
      clear hJ a w; intro b1 b2 b3 a w hJ
      refine gY (hQ [.agg #[Vi fk,Vi fn,.string fs]] _ [] hJ (.rcel hJ.j 1 .nil) (fJ _) rfl ?_).1
      exact rfl
     | true =>
      obtain ⟨e1,e2,e3⟩:=hfk rfl
      rw [← e1] at e2 e3
      simp only at e2 e3
      subst e2
      rcases e3 with rfl | rfl
      ·rw [if_pos (.inr (by decide))] at hev
       rw [hev]
       refine fY Tryz.func89 (c:=Tryz.f89.body.getD .skip) (N:=93) ?_
       intro hbx hbad Q hQ a w hJ
       refine rx' hJ false 79 [.own,.own,.b 1 0,.b 1 0,.cl 110 #[.map (some b),.agg #[Vi 15,Vi x.k,Vi x.n,.string x.s,.string x.nm,.slice A x.args.length c]] (.tuple #[.agg #[Vi 2,Vi 0,.string fs],.bool true]),.own,.b 0 0,.b 0 1,.b 2 0,.b 0 0,.b 1 0] [] (.new fun b1=>.new fun b2=>.new fun b3=>.ok (.out .ret) [] [(4,Vp b2)] [.box b3 [Vi 2,Vi 0,.string fs],.box b2 [Vi 2,Vi 0,.string fs],.box b1 [Vi 15,Vi x.k,Vi x.n,.string x.s,.string x.nm,.slice A x.args.length c]] []) (ho:=And.intro (fun H sH=>hf _ (hx.sees sH) (hmp.sees sH)) (trivial)) (fun b1 b2 b3 _=>by kernel_rfl) ?_
       clear hJ a w; intro b1 b2 b3 a w hJ
       refine gY (hQ [.agg #[Vi 2,Vi 0,.string fs]] _ [] hJ (.rcel hJ.j 1 .nil) (fJ _) rfl ?_).1
       exact rfl
      ·rw [if_neg (by simp)] at hev
       rw [hev]
       refine fY Tryz.func89 (c:=Tryz.f89.body.getD .skip) (N:=93) ?_
       intro hbx hbad Q hQ a w hJ
       refine rx' hJ false 76 [.own,.own,.b 1 0,.b 1 0,.cl 110 #[.map (some b),.agg #[Vi 15,Vi x.k,Vi x.n,.string x.s,.string x.nm,.slice A x.args.length c]] (.tuple #[.agg #[Vi 2,Vi 1,.string fs],.bool true]),.own,.b 0 0,.b 0 1,.b 2 0,.b 2 5] [] (.new fun b1=>.new fun b2=>.new fun b3=>.ok (.ops [0,1,1,0,1,1,1,1,1,0,1,0,1] 3) [.seq [1,1,1,0,1,1,1,1,1,0,1,0,1],.block 0,.seq [1,1]] [(4,Vp b2),(52,.map (some b)),(54,.slice A x.args.length c)] [.box b3 [Vi 2,Vi 1,.string fs],.box b2 [Vi 0,Vi 0,Ve],.box b1 [Vi 15,Vi x.k,Vi x.n,.string x.s,.string x.nm,.slice A x.args.length c]] []) (ho:=And.intro (fun H sH=>hf _ (hx.sees sH) (hmp.sees sH)) (trivial)) (fun b1 b2 b3 _=>by kernel_rfl) ?_
       clear hJ a w; intro b1 b2 b3 a w hJ
       obtain ⟨b4,o5,rfl,-,c6⟩:=RS.row hr (hrow1)
       replace hJ:=hJ.fact (c6.sees (Sees.refl _))
       refine rk' hJ false 9 [.ix b4 o5 x.args.length c 1,.f 0 0,.cl 111 #[.map (some b),.agg #[Vi y1.op,Vi y1.k,Vi y1.n,.string y1.s,.string y1.nm,.slice A1 n1 c1]] (.agg #[Vi ((aK (nK env y1)).k),Vi ((aK (nK env y1)).n),.string ((aK (nK env y1)).s)]),.b 1 0] [] (.f (.out .ret) [] [4] [] [.box b3 [Vi 2,Vi 1,.string fs],.box b2 [Vi ((aK (nK env y1)).k),Vi ((aK (nK env y1)).n),.string ((aK (nK env y1)).s)],.box b1 [Vi 15,Vi x.k,Vi x.n,.string x.s,.string x.nm,.slice (some ⟨b4,o5,none⟩) x.args.length c]] [.o 0]) (ho:=And.intro (by first | omega | (simp; omega)) (And.intro (fun H sH=>hb _ (hi1.sees sH) (hmp.sees sH)) (trivial))) ?_
       clear hJ a w; intro a w hJ
       refine gY (hQ [.agg #[Vi ((aK (nK env y1)).k),Vi ((aK (nK env y1)).n),.string ((aK (nK env y1)).s)]] _ [] hJ (.rcel hJ.j 1 .nil) (fJ _) rfl ?_).1
       exact rfl
    ·have ho:(x.op == 16)=true:=by rw [h15]; rfl
     rw [ho] at hev
     rw [h15] at hf ⊢
     cases fb with
     | false =>
      rw [if_pos (.inl rfl)] at hev
      rw [hev]
      refine fY Tryz.func89 (c:=Tryz.f89.body.getD .skip) (N:=93) ?_
      intro hbx hbad Q hQ a w hJ
      refine rx' hJ false 82 [.own,.own,.b 1 0,.b 1 0,.cl 110 #[.map (some b),.agg #[Vi 16,Vi x.k,Vi x.n,.string x.s,.string x.nm,.slice A x.args.length c]] (.tuple #[.agg #[Vi fk,Vi fn,.string fs],.bool false]),.own,.b 0 0,.b 0 0,.b 1 0] [] (.new fun b1=>.new fun b2=>.new fun b3=>.ok (.out .ret) [] [(4,Vp b2)] [.box b3 [Vi fk,Vi fn,.string fs],.box b2 [Vi fk,Vi fn,.string fs],.box b1 [Vi 16,Vi x.k,Vi x.n,.string x.s,.string x.nm,.slice A x.args.length c]] []) (ho:=And.intro (fun H sH=>hf _ (hx.sees sH) (hmp.sees sH)) (trivial)) (fun b1 b2 b3 _=>by kernel_rfl) ?_
      clear hJ a w; intro b1 b2 b3 a w hJ
      refine gY (hQ [.agg #[Vi fk,Vi fn,.string fs]] _ [] hJ (.rcel hJ.j 1 .nil) (fJ _) rfl ?_).1
      exact rfl
     | true =>
      obtain ⟨e1,e2,e3⟩:=hfk rfl
      rw [← e1] at e2 e3
      simp only at e2 e3
      subst e2
      rcases e3 with rfl | rfl
      ·rw [if_neg (by simp)] at hev
       rw [hev]
       refine fY Tryz.func89 (c:=Tryz.f89.body.getD .skip) (N:=93) ?_
       intro hbx hbad Q hQ a w hJ
       refine rx' hJ false 79 [.own,.own,.b 1 0,.b 1 0,.cl 110 #[.map (some b),.agg #[Vi 16,Vi x.k,Vi x.n,.string x.s,.string x.nm,.slice A x.args.length c]] (.tuple #[.agg #[Vi 2,Vi 0,.string fs],.bool true]),.own,.b 0 0,.b 0 1,.b 2 0,.b 2 5] [] (.new fun b1=>.new fun b2=>.new fun b3=>.ok (.ops [0,1,1,0,1,1,1,1,1,0,1,0,1] 3) [.seq [1,1,1,0,1,1,1,1,1,0,1,0,1],.block 0,.seq [1,1]] [(4,Vp b2),(52,.map (some b)),(54,.slice A x.args.length c)] [.box b3 [Vi 2,Vi 0,.string fs],.box b2 [Vi 0,Vi 0,Ve],.box b1 [Vi 16,Vi x.k,Vi x.n,.string x.s,.string x.nm,.slice A x.args.length c]] []) (ho:=And.intro (fun H sH=>hf _ (hx.sees sH) (hmp.sees sH)) (trivial)) (fun b1 b2 b3 _=>by kernel_rfl) ?_
       clear hJ a w; intro b1 b2 b3 a w hJ
       obtain ⟨b4,o5,rfl,-,c6⟩:=RS.row hr (hrow1)
       replace hJ:=hJ.fact (c6.sees (Sees.refl _))
       refine rk' hJ false 9 [.ix b4 o5 x.args.length c 1,.f 0 0,.cl 111 #[.map (some b),.agg #[Vi y1.op,Vi y1.k,Vi y1.n,.string y1.s,.string y1.nm,.slice A1 n1 c1]] (.agg #[Vi ((aK (nK env y1)).k),Vi ((aK (nK env y1)).n),.string ((aK (nK env y1)).s)]),.b 1 0] [] (.f (.out .ret) [] [4] [] [.box b3 [Vi 2,Vi 0,.string fs],.box b2 [Vi ((aK (nK env y1)).k),Vi ((aK (nK env y1)).n),.string ((aK (nK env y1)).s)],.box b1 [Vi 16,Vi x.k,Vi x.n,.string x.s,.string x.nm,.slice (some ⟨b4,o5,none⟩) x.args.length c]] [.o 0]) (ho:=And.intro (by first | omega | (simp; omega)) (And.intro (fun H sH=>hb _ (hi1.sees sH) (hmp.sees sH)) (trivial))) ?_
       clear hJ a w; intro a w hJ
       refine gY (hQ [.agg #[Vi ((aK (nK env y1)).k),Vi ((aK (nK env y1)).n),.string ((aK (nK env y1)).s)]] _ [] hJ (.rcel hJ.j 1 .nil) (fJ _) rfl ?_).1
       exact rfl
      ·rw [if_pos (.inr (by decide))] at hev
       rw [hev]
       refine fY Tryz.func89 (c:=Tryz.f89.body.getD .skip) (N:=93) ?_
       intro hbx hbad Q hQ a w hJ
       refine rx' hJ false 82 [.own,.own,.b 1 0,.b 1 0,.cl 110 #[.map (some b),.agg #[Vi 16,Vi x.k,Vi x.n,.string x.s,.string x.nm,.slice A x.args.length c]] (.tuple #[.agg #[Vi 2,Vi 1,.string fs],.bool true]),.own,.b 0 0,.b 0 1,.b 2 0,.b 0 0,.b 1 0] [] (.new fun b1=>.new fun b2=>.new fun b3=>.ok (.out .ret) [] [(4,Vp b2)] [.box b3 [Vi 2,Vi 1,.string fs],.box b2 [Vi 2,Vi 1,.string fs],.box b1 [Vi 16,Vi x.k,Vi x.n,.string x.s,.string x.nm,.slice A x.args.length c]] []) (ho:=And.intro (fun H sH=>hf _ (hx.sees sH) (hmp.sees sH)) (trivial)) (fun b1 b2 b3 _=>by kernel_rfl) ?_
       clear hJ a w; intro b1 b2 b3 a w hJ
       refine gY (hQ [.agg #[Vi 2,Vi 1,.string fs]] _ [] hJ (.rcel hJ.j 1 .nil) (fJ _) rfl ?_).1
       exact rfl
   ·by_cases h17:x.op=17
    ·have ha:x.args.length=3:=by rw [h7,h17]; rfl
     obtain ⟨y0,A0,n0,c0,hy0,-,-⟩:=args_at hvs (i:=0) (by omega)
     obtain ⟨y1,A1,n1,c1,hy1,hi1,hrow1⟩:=args_at hvs (i:=1) (by omega)
     obtain ⟨y2,A2,n2,c2,hy2,hi2,hrow2⟩:=args_at hvs (i:=2) (by omega)
     have ok0:=hok y0 (List.mem_of_getElem? hy0)
     have ho1:=hof y1 (List.mem_of_getElem? hy1)
     have ho2:=hof y2 (List.mem_of_getElem? hy2)
     have hf:=fun H q1 q2=>first_any env b x y0 (.slice A x.args.length c) H q1 q2 hy0 hof ok0
     rw [if_neg h15,if_pos h17,hd_eval hy0,hd_eval hy1,hd_eval hy2] at hev
     have hfk:=first_known ok0
     generalize hF:jQ (nK env y0)=f at *
     obtain ⟨⟨fk,fn,fs⟩,fb⟩:=f
     simp only at hev hfk hf
     rw [h17] at hf ⊢
     cases fb with
     | false =>
      rw [if_pos rfl] at hev
      rw [hev]
      refine fY Tryz.func89 (c:=Tryz.f89.body.getD .skip) (N:=93) ?_
      intro hbx hbad Q hQ a w hJ
      refine rx' hJ false 80 [.own,.own,.b 1 0,.b 1 0,.cl 110 #[.map (some b),.agg #[Vi 17,Vi x.k,Vi x.n,.string x.s,.string x.nm,.slice A x.args.length c]] (.tuple #[.agg #[Vi fk,Vi fn,.string fs],.bool false]),.own,.b 0 0,.b 0 0,.b 1 0] [] (.new fun b1=>.new fun b2=>.new fun b3=>.ok (.out .ret) [] [(4,Vp b2)] [.box b3 [Vi fk,Vi fn,.string fs],.box b2 [Vi fk,Vi fn,.string fs],.box b1 [Vi 17,Vi x.k,Vi x.n,.string x.s,.string x.nm,.slice A x.args.length c]] []) (ho:=And.intro (fun H sH=>hf _ (hx.sees sH) (hmp.sees sH)) (trivial)) (fun b1 b2 b3 _=>by kernel_rfl) ?_
      clear hJ a w; intro b1 b2 b3 a w hJ
      refine gY (hQ [.agg #[Vi fk,Vi fn,.string fs]] _ [] hJ (.rcel hJ.j 1 .nil) (fJ _) rfl ?_).1
      exact rfl
     | true =>
      rw [if_neg (by simp)] at hev
      obtain ⟨e1,e2,e3⟩:=hfk rfl
      rw [← e1] at e2 e3
      simp only at e2 e3
      subst e2
      rcases e3 with rfl | rfl
      ·rw [if_neg (by decide)] at hev
       rw [hev]
       refine fY Tryz.func89 (c:=Tryz.f89.body.getD .skip) (N:=93) ?_
       intro hbx hbad Q hQ a w hJ
       refine rx' hJ false 80 [.own,.own,.b 1 0,.b 1 0,.cl 110 #[.map (some b),.agg #[Vi 17,Vi x.k,Vi x.n,.string x.s,.string x.nm,.slice A x.args.length c]] (.tuple #[.agg #[Vi 2,Vi 0,.string fs],.bool true]),.own,.b 0 0,.b 2 5,.b 0 1] [] (.new fun b1=>.new fun b2=>.new fun b3=>.ok (.ops [0,1,1,0,1,1,1,1,1,1,1,0,1,0,1] 6) [.seq [1,1,1,0,1,1,1,1,1,1,1,0,1,0,1],.block 0,.seq [1,1]] [(4,Vp b2),(69,.map (some b)),(71,.slice A x.args.length c),(74,Vi 2)] [.box b3 [Vi 2,Vi 0,.string fs],.box b2 [Vi 0,Vi 0,Ve],.box b1 [Vi 17,Vi x.k,Vi x.n,.string x.s,.string x.nm,.slice A x.args.length c]] []) (ho:=And.intro (fun H sH=>hf _ (hx.sees sH) (hmp.sees sH)) (trivial)) (fun b1 b2 b3 _=>by kernel_rfl) ?_
       clear hJ a w; intro b1 b2 b3 a w hJ
       obtain ⟨b4,o5,rfl,-,c6⟩:=RS.row hr (hrow2)
       replace hJ:=hJ.fact (c6.sees (Sees.refl _))
       refine rk' hJ false 9 [.ix b4 o5 x.args.length c 2,.f 0 0,.cl 89 #[.map (some b),.agg #[Vi y2.op,Vi y2.k,Vi y2.n,.string y2.s,.string y2.nm,.slice A2 n2 c2]] (.agg #[Vi ((nK env y2).k),Vi ((nK env y2).n),.string ((nK env y2).s)]),.b 1 0] [] (.f (.out .ret) [] [4] [] [.box b3 [Vi 2,Vi 0,.string fs],.box b2 [Vi ((nK env y2).k),Vi ((nK env y2).n),.string ((nK env y2).s)],.box b1 [Vi 17,Vi x.k,Vi x.n,.string x.s,.string x.nm,.slice (some ⟨b4,o5,none⟩) x.args.length c]] [.o 0]) (ho:=And.intro (by first | omega | (simp; omega)) (And.intro (fun H sH=>ho2 _ _ (hi2.sees sH) (hmp.sees sH)) (trivial))) ?_
       clear hJ a w; intro a w hJ
       refine gY (hQ [.agg #[Vi ((nK env y2).k),Vi ((nK env y2).n),.string ((nK env y2).s)]] _ [] hJ (.rcel hJ.j 1 .nil) (fJ _) rfl ?_).1
       exact rfl
      ·rw [if_pos rfl] at hev
       rw [hev]
       refine fY Tryz.func89 (c:=Tryz.f89.body.getD .skip) (N:=93) ?_
       intro hbx hbad Q hQ a w hJ
       refine rx' hJ false 80 [.own,.own,.b 1 0,.b 1 0,.cl 110 #[.map (some b),.agg #[Vi 17,Vi x.k,Vi x.n,.string x.s,.string x.nm,.slice A x.args.length c]] (.tuple #[.agg #[Vi 2,Vi 1,.string fs],.bool true]),.own,.b 0 0,.b 2 5,.b 0 1] [] (.new fun b1=>.new fun b2=>.new fun b3=>.ok (.ops [0,1,1,0,1,1,1,1,1,1,1,0,1,0,1] 6) [.seq [1,1,1,0,1,1,1,1,1,1,1,0,1,0,1],.block 0,.seq [1,1]] [(4,Vp b2),(69,.map (some b)),(71,.slice A x.args.length c),(74,Vi 1)] [.box b3 [Vi 2,Vi 1,.string fs],.box b2 [Vi 0,Vi 0,Ve],.box b1 [Vi 17,Vi x.k,Vi x.n,.string x.s,.string x.nm,.slice A x.args.length c]] []) (ho:=And.intro (fun H sH=>hf _ (hx.sees sH) (hmp.sees sH)) (trivial)) (fun b1 b2 b3 _=>by kernel_rfl) ?_
       clear hJ a w; intro b1 b2 b3 a w hJ
       obtain ⟨b4,o5,rfl,-,c6⟩:=RS.row hr (hrow1)
       replace hJ:=hJ.fact (c6.sees (Sees.refl _))
       refine rk' hJ false 9 [.ix b4 o5 x.args.length c 1,.f 0 0,.cl 89 #[.map (some b),.agg #[Vi y1.op,Vi y1.k,Vi y1.n,.string y1.s,.string y1.nm,.slice A1 n1 c1]] (.agg #[Vi ((nK env y1).k),Vi ((nK env y1).n),.string ((nK env y1).s)]),.b 1 0] [] (.f (.out .ret) [] [4] [] [.box b3 [Vi 2,Vi 1,.string fs],.box b2 [Vi ((nK env y1).k),Vi ((nK env y1).n),.string ((nK env y1).s)],.box b1 [Vi 17,Vi x.k,Vi x.n,.string x.s,.string x.nm,.slice (some ⟨b4,o5,none⟩) x.args.length c]] [.o 0]) (ho:=And.intro (by first | omega | (simp; omega)) (And.intro (fun H sH=>ho1 _ _ (hi1.sees sH) (hmp.sees sH)) (trivial))) ?_
       clear hJ a w; intro a w hJ
       refine gY (hQ [.agg #[Vi ((nK env y1).k),Vi ((nK env y1).n),.string ((nK env y1).s)]] _ [] hJ (.rcel hJ.j 1 .nil) (fJ _) rfl ?_).1
       exact rfl
    ·rw [if_neg h15,if_neg h17] at hev
     have hall:=fun H q1 q2=>all_any env b x (.slice A x.args.length c) H q1 q2 hof (by omega)
     have hlv:(oK env x.args).length=arity x.op:=by rw [pK,List.length_map,h7]
     have hvk:∀ v∈oK env x.args,OkV v:=fun v hv=>by
      rw [pK] at hv
      obtain ⟨y,hy,rfl⟩:=List.mem_map.1 hv
      exact hok y hy
     rcases hk:eV none (oK env x.args) with _ | u
     ·rw [hk] at hev hall
      obtain ⟨-,g⟩:=lack_none hk
      have hap2:=fun sl H q=>apply_any x.op (oK env x.args) sl H q (fun v hv=>ok_known (hvk v hv) (g v hv).2 (g v hv).1) h1 h2 (by omega) (by omega) h17 hlv
      rw [hev]
      refine fY Tryz.func89 (c:=Tryz.f89.body.getD .skip) (N:=93) ?_
      intro hbx hbad Q hQ a w hJ
      refine rx' hJ false 57 [.own,.own,.b 1 0,.b 1 5] [(16,.bool (x.op == 1),.bool false),(20,.bool (x.op == 2),.bool false),(32,.bool (x.op == 15),.bool false),(33,.bool (x.op == 16),.bool false),(59,.bool (x.op == 17),.bool false)] (.new fun b1=>.new fun b2=>.ok (.ops [0,1,1] 3) [.seq [1,1,1]] [(3,Vp b1),(4,Vp b2),(79,.map (some b)),(81,.slice A x.args.length c)] [.box b2 [Vi 0,Vi 0,Ve],.box b1 [Vi x.op,Vi x.k,Vi x.n,.string x.s,.string x.nm,.slice A x.args.length c]] []) (hc:=And.intro (congrArg Value.bool (beq_eq_false_iff_ne.2 (by omega))) (And.intro (congrArg Value.bool (beq_eq_false_iff_ne.2 (by omega))) (And.intro (congrArg Value.bool (beq_eq_false_iff_ne.2 (by omega))) (And.intro (congrArg Value.bool (beq_eq_false_iff_ne.2 (by omega))) (And.intro (congrArg Value.bool (beq_eq_false_iff_ne.2 (by omega))) (trivial)))))) (fun b1 b2 _=>by kernel_rfl) ?_
      clear hJ a w; intro b1 b2 a w hJ
      refine dY hJ 82 (hall _ (hx.sees hJ.j.sees) (hmp.sees hJ.j.sees)) (fun _=>by kernel_rfl) ?_; clear hJ a w; rintro _ h3 a w s4 ⟨Aq,nq,cq,uq,rfl,rfl,hq⟩ hJ
      refine rx' hJ false 24 [.own,.b 0 0,.b 0 0,.b 2 0] [] (.new fun b5=>.ok (.ops [0,1,1,1,1] 3) [.seq [1,1,1,1,1]] [(4,Vp b2),(90,Vi x.op),(91,.slice Aq nq cq)] [.box b5 [Vi 0,Vi 0,Ve],.box b2 [Vi 0,Vi 0,Ve],.box b1 [Vi x.op,Vi x.k,Vi x.n,.string x.s,.string x.nm,.slice A x.args.length c]] []) (fun b5 _=>by kernel_rfl) ?_
      clear hJ a w; intro b5 a w hJ
      have hq2:=(hq rfl).2
      refine rx' hJ false 5 [.cl 113 #[Vi x.op,.slice Aq nq cq] (.agg #[Vi ((oJ x.op (oK env x.args)).k),Vi ((oJ x.op (oK env x.args)).n),.string ((oJ x.op (oK env x.args)).s)]),.b 1 0] [] (.ok (.out .ret) [] [(4,Vp b2)] [.box b5 [Vi 0,Vi 0,Ve],.box b2 [Vi ((oJ x.op (oK env x.args)).k),Vi ((oJ x.op (oK env x.args)).n),.string ((oJ x.op (oK env x.args)).s)],.box b1 [Vi x.op,Vi x.k,Vi x.n,.string x.s,.string x.nm,.slice A x.args.length c]] []) (ho:=And.intro (fun H sH=>hap2 _ _ (hq2.sees sH)) (trivial)) (fun _=>by kernel_rfl) ?_
      clear hJ a w; intro a w hJ
      refine gY (hQ [.agg #[Vi ((oJ x.op (oK env x.args)).k),Vi ((oJ x.op (oK env x.args)).n),.string ((oJ x.op (oK env x.args)).s)]] _ [] hJ (.rcel hJ.j 1 .nil) (fJ _) rfl ?_).1
      exact rfl
     ·rw [hk] at hev hall
      obtain ⟨hu45,-⟩:=lack_some hk (fun w hw=>by cases hw)
      rw [hev]
      refine fY Tryz.func89 (c:=Tryz.f89.body.getD .skip) (N:=93) ?_
      intro hbx hbad Q hQ a w hJ
      refine rx' hJ false 57 [.own,.own,.b 1 0,.b 1 5] [(16,.bool (x.op == 1),.bool false),(20,.bool (x.op == 2),.bool false),(32,.bool (x.op == 15),.bool false),(33,.bool (x.op == 16),.bool false),(59,.bool (x.op == 17),.bool false)] (.new fun b1=>.new fun b2=>.ok (.ops [0,1,1] 3) [.seq [1,1,1]] [(3,Vp b1),(4,Vp b2),(79,.map (some b)),(81,.slice A x.args.length c)] [.box b2 [Vi 0,Vi 0,Ve],.box b1 [Vi x.op,Vi x.k,Vi x.n,.string x.s,.string x.nm,.slice A x.args.length c]] []) (hc:=And.intro (congrArg Value.bool (beq_eq_false_iff_ne.2 (by omega))) (And.intro (congrArg Value.bool (beq_eq_false_iff_ne.2 (by omega))) (And.intro (congrArg Value.bool (beq_eq_false_iff_ne.2 (by omega))) (And.intro (congrArg Value.bool (beq_eq_false_iff_ne.2 (by omega))) (And.intro (congrArg Value.bool (beq_eq_false_iff_ne.2 (by omega))) (trivial)))))) (fun b1 b2 _=>by kernel_rfl) ?_
      clear hJ a w; intro b1 b2 a w hJ
      refine dY hJ 82 (hall _ (hx.sees hJ.j.sees) (hmp.sees hJ.j.sees)) (fun _=>by kernel_rfl) ?_; clear hJ a w; rintro _ h3 a w s4 ⟨Aq,nq,cq,uq,rfl,rfl,hq⟩ hJ
      refine rx' hJ false 25 [.own,.b 0 0,.b 0 0,.b 0 0,.b 1 0] [(87,.bool (u.k != 0),.bool true)] (.new fun b5=>.ok (.out .ret) [] [(4,Vp b2)] [.box b5 [Vi u.k,Vi u.n,.string u.s],.box b2 [Vi u.k,Vi u.n,.string u.s],.box b1 [Vi x.op,Vi x.k,Vi x.n,.string x.s,.string x.nm,.slice A x.args.length c]] []) (hc:=And.intro (congrArg Value.bool (bne_iff_ne.2 (by omega))) (trivial)) (fun b5 _=>by kernel_rfl) ?_
      clear hJ a w; intro b5 a w hJ
      refine gY (hQ [.agg #[Vi u.k,Vi u.n,.string u.s]] _ [] hJ (.rcel hJ.j 1 .nil) (fJ _) rfl ?_).1
      exact rfl
end Go.Proofs.YthckljafinhepaaGreat
namespace Go.Proofs.YthckljafinhepaaGreat
open Go.RowKit
theorem check_pending (h:Vw):C0 Tryz.prog 71 #[.agg #[.int .i64 4,.int .i64 0,.string ⟨#[]⟩]] h (fun v _=>v=.int .i64 0):=by
 refine fY Tryz.func71 (c:=Tryz.f71.body.getD .skip) (N:=50) ?_
 intro hbx hbad Q hQ a w hJ
 refine rx' hJ false 70 [.own,.b 0 0,.b 0 1,.b 0 2] [] (.new fun b1=>.ok (.out .ret) [] [(2,Vi 0)] [.box b1 [Vi 4,Vi 0,Ve]] []) (fun b1 _=>by kernel_rfl) ?_
 clear hJ a w; intro b1 a w hJ
 refine gY (hQ [Vi 0] _ [] hJ (.rtm hJ.j .nil) (fJ _) rfl ?_).1
 exact rfl
theorem check_fault (n:Int) (h:Vw) (h0:1≤n) (h1:n≤15):C0 Tryz.prog 71 #[.agg #[.int .i64 5,.int .i64 n,.string ⟨#[]⟩]] h (fun v _=>v=.int .i64 0):=by
 refine fY Tryz.func71 (c:=Tryz.f71.body.getD .skip) (N:=50) ?_
 intro hbx hbad Q hQ a w hJ
 refine rx' hJ false 82 [.own,.b 0 0,.b 0 1,.b 0 1,.b 0 2] [(41,.bool (decide (n < 1)),.bool false),(45,.bool (decide (n > 15)),.bool false)] (.new fun b1=>.ok (.out .ret) [] [(2,Vi 0)] [.box b1 [Vi 5,Vi n,Ve]] []) (hc:=And.intro (congrArg Value.bool (decide_eq_false (by omega))) (And.intro (congrArg Value.bool (decide_eq_false (by omega))) (trivial))) (fun b1 _=>by kernel_rfl) ?_
 clear hJ a w; intro b1 a w hJ
 refine gY (hQ [Vi 0] _ [] hJ (.rtm hJ.j .nil) (fJ _) rfl ?_).1
 exact rfl
theorem check_okv (v:Vl) (h:Vw) (hv:OkV v):C0 Tryz.prog 71 #[v.val] h (fun r _=>r=.int .i64 0):=by
 rcases hv with hv | rfl | ⟨h1,h2,h3,h4⟩
 ·exact C0.of_gives (fun w=>value_check v.k v.n v.s w hv) h
 ·exact check_pending h
 ·obtain ⟨k,n,s⟩:=v
  simp only at h1 h2 h3 h4
  subst h1 h4
  exact check_fault n h h2 h3
def addF (env:Env) (p:ByteArray × Vl):Env:=match env.get p.1 with
 | some _=>env
 | none=>env++[p]
def factsE (l:Env):Env:=l.foldl addF []
theorem factsE_snoc (l:Env) (p:ByteArray × Vl):factsE (l++[p])=addF (factsE l) p:=by unfold factsE; rw [List.foldl_append]; rfl
theorem envEs_snoc (l:Env) (p:ByteArray × Vl):mK (l++[p])=mK l++[(.string p.1,p.2.val)]:=by simp [mK,rX]
theorem facts_any (l:Env) (sl:Value) (h:Vw) (hr:RS h 7 sl (zK l)) (hok:∀ p∈l,OkV p.2) (hl:l.length≤1000) :
  C0 Tryz.prog 88 #[sl] h (fun v h'=>∃ b,v=.tuple #[.map (some b),.int .i64 0]∧MapAt h' b (mK (factsE l))):=by
 obtain ⟨A,cap,rfl,-,-,-⟩:=hr.form
 rw [List.length_map] at *
 generalize hL:l.length=len at *
 refine fY Tryz.func88 (c:=Tryz.f88.body.getD .skip) (N:=39) ?_
 intro hbx hbad Q hQ a w hJ
 refine rk' hJ false 8 [] [] (.k (.ops [0,1] 0) [.seq [1,1]] [0] []) ?_
 clear hJ a w; intro a w hJ
 refine mY hJ 10 (by kernel_rfl) (by kernel_rfl) ?_; clear hJ a w; intro b1 a w hJ
 refine rk' hJ false 12 [] [] (.k (.code [0,1,0,1,1]) [.block 0,.seq [1,1,1]] [] [(4,.map (some b1)),(11,.slice A len cap),(12,Vi (len:Int)),(13,Vi 0)]) ?_
 clear hJ a w; intro a w hJ
 refine kY (fun (k:Nat) a w=>∃ (h2:Vw) ,K ⟨39,h.w,h.bad,[]⟩ [(4,.map (some b1)),(11,.slice A len cap),(12,Vi (len:Int)),(13,Vi (k:Int))] [.map b1 (mK (factsE (l.take k)))] [] h2 a w∧Sees h h2∧(k≤len)) (fun k=>len - k) (0) ⟨h,hJ.tw,Sees.refl _,Nat.zero_le _⟩ ?_
 clear hJ a w; rintro k a w ⟨h2,hJ,s3,hk⟩
 refine rk' hJ false 6 [] [] (.k (.code [0,1,0,0,1,0,1,1]) [.seq [1,1,0,0,1,0,1,1]] [4,11,12,13] [(14,.bool (decide ((k:Int) < (len:Int))))]) ?_
 clear hJ a w; intro a w hJ
 rcases (by omega:k < len∨len=k) with hlt | hke
 ·obtain ⟨p,hp⟩:∃ p,l[k]?=some p:=⟨_,List.getElem?_eq_getElem (by omega)⟩
  have hrow:(zK l)[k]?=some (fcRow p):=by rw [List.getElem?_map,hp]; rfl
  have hck:=fun H=>check_okv p.2 H (hok p (List.mem_of_getElem? hp))
  have htk:factsE (l.take (k + 1))=addF (factsE (l.take k)) p:=by rw [tX l k p hp,factsE_snoc]
  generalize factsE (l.take k)=env at *
  cases hg:env.get p.1 with
  | some u =>
   obtain ⟨i,hi⟩:=of_lookup hg
   refine qY hJ (t:=decide ((k:Int) < (len:Int))) (decide_eq_true (by omega)) ?_
   refine rk' hJ false 6 [] [] (.k (.ops [0,0,0,1,1,0,0,1,0,1,1] 0) [.seq [1,0,0,1,1,0,0,1,0,1,1],.block 1,.seq [1,1,1,0,0,1,0,1,1]] [4,11,12,13] []) ?_
   clear hJ a w; intro a w hJ
   obtain ⟨b4,o5,rfl,-,c6⟩:=RS.row hr (hrow)
   replace hJ:=hJ.fact (c6.sees s3)
   refine rk hJ false 29 [.ix b4 o5 len cap k,.f 0 0,.own,.b 0 0,.b 0 4,.cl 71 #[.agg #[Vi p.2.k,Vi p.2.n,.string p.2.s]] (Vi 0),.b 0 0] [] (.new fun b7=>.f (.ops [0,1,1,0,0,1,1,0,0,1,0,1,1] 3) [.seq [1,1,1,0,0,1,1,0,0,1,0,1,1],.block 1,.seq [1,1,1,0,0,1,0,1,1]] [4,11,12,13] [(6,Vp b7),(24,.map (some b1)),(26,.string p.1)] [.box b7 [.string p.1,Vi 0,Vi 0,Ve,Vi p.2.k,Vi p.2.n,.string p.2.s],.map b1 (mK (env))] [.o 0]) (And.intro (by first | omega | (simp; omega)) (And.intro (fun H sH=>hck _) (trivial))) trivial (fun b7 _=>by kernel_rfl) ?_
   clear hJ a w; intro b7 a w hJ
   refine lY hJ 27 (b:=b1) (t:=137) (mo:=(.tmp 24)) (ko:=(.tmp 26)) (c:=true) (es:=mK (env)) (kt:=9) (et:=38) (td:=.string) (key:=.string p.1) (z:=.agg #[Vi 0,Vi 0,Ve]) (v:=.tuple #[.agg #[Vi u.k,Vi u.n,.string u.s],.bool true]) (r:=some (i,.agg #[Vi u.k,Vi u.n,.string u.s])) (hJ.map 1 (by kernel_rfl)) Tryz.underlying137 Tryz.underlying9 (hi) ?_; clear hJ a w; intro a w hJ
   refine rk hJ false 22 [.own,.b 0 0] [(37,Vi (IntKind.i64.wrap ((k:Int) + 1)),Vi ((k:Int) + 1))] (.new fun b8=>.f (.out .normal) [] [4,11,12] [(13,Vi ((k:Int) + 1))] [.box b8 [Vi u.k,Vi u.n,.string u.s],.box b7 [.string p.1,Vi 0,Vi 0,Ve,Vi p.2.k,Vi p.2.n,.string p.2.s],.map b1 (mK (env))] [.o 0]) trivial (And.intro (kJ (by omega) (by omega)) (trivial)) (fun b8 _=>by kernel_rfl) ?_
   clear hJ a w; intro b8 a w hJ
   replace hJ:=hJ.drop 1
   replace hJ:=hJ.drop 0
   exact pY ⟨k + 1,⟨h2,(hJ.tof [] (F':=[]) (by kernel_rfl)).to (by kernel_rfl) (by rw [htk]; unfold addF; rw [hg]; rfl) rfl,s3,by omega⟩,by omega⟩
  | none =>
   refine qY hJ (t:=decide ((k:Int) < (len:Int))) (decide_eq_true (by omega)) ?_
   refine rk' hJ false 6 [] [] (.k (.ops [0,0,0,1,1,0,0,1,0,1,1] 0) [.seq [1,0,0,1,1,0,0,1,0,1,1],.block 1,.seq [1,1,1,0,0,1,0,1,1]] [4,11,12,13] []) ?_
   clear hJ a w; intro a w hJ
   obtain ⟨b9,o10,rfl,-,c11⟩:=RS.row hr (hrow)
   replace hJ:=hJ.fact (c11.sees s3)
   refine rk hJ false 29 [.ix b9 o10 len cap k,.f 0 0,.own,.b 0 0,.b 0 4,.cl 71 #[.agg #[Vi p.2.k,Vi p.2.n,.string p.2.s]] (Vi 0),.b 0 0] [] (.new fun b12=>.f (.ops [0,1,1,0,0,1,1,0,0,1,0,1,1] 3) [.seq [1,1,1,0,0,1,1,0,0,1,0,1,1],.block 1,.seq [1,1,1,0,0,1,0,1,1]] [4,11,12,13] [(6,Vp b12),(24,.map (some b1)),(26,.string p.1)] [.box b12 [.string p.1,Vi 0,Vi 0,Ve,Vi p.2.k,Vi p.2.n,.string p.2.s],.map b1 (mK (env))] [.o 0]) (And.intro (by first | omega | (simp; omega)) (And.intro (fun H sH=>hck _) (trivial))) trivial (fun b12 _=>by kernel_rfl) ?_
   clear hJ a w; intro b12 a w hJ
   refine lY hJ 27 (b:=b1) (t:=137) (mo:=(.tmp 24)) (ko:=(.tmp 26)) (c:=true) (es:=mK (env)) (kt:=9) (et:=38) (td:=.string) (key:=.string p.1) (z:=.agg #[Vi 0,Vi 0,Ve]) (v:=.tuple #[.agg #[Vi 0,Vi 0,Ve],.bool false]) (r:=none) (hJ.map 1 (by kernel_rfl)) Tryz.underlying137 Tryz.underlying9 (of_miss hg) ?_; clear hJ a w; intro a w hJ
   refine rx' hJ false 21 [.own,.b 0 0,.b 1 0,.b 1 4] [] (.new fun b13=>.ok (.ops [0,1,1,1,1,0,0,1,1,0,0,1,0,1,1] 5) [.block 1,.seq [1,1,1,0,0,1,0,1,1]] [(4,.map (some b1)),(11,.slice (some ⟨b9,o10,none⟩) len cap),(12,Vi (len:Int)),(13,Vi (k:Int)),(32,.map (some b1)),(34,.string p.1),(36,.agg #[Vi p.2.k,Vi p.2.n,.string p.2.s])] [.box b13 [Vi 0,Vi 0,Ve],.box b12 [.string p.1,Vi 0,Vi 0,Ve,Vi p.2.k,Vi p.2.n,.string p.2.s],.map b1 (mK (env))] [(b9,o10 + k * 7,[.string p.1,Vi 0,Vi 0,Ve,Vi p.2.k,Vi p.2.n,.string p.2.s])]) (fun b13 _=>by kernel_rfl) ?_
   clear hJ a w; intro b13 a w hJ
   refine nY hJ 2 (b:=b1) (t:=137) (mo:=(.tmp 32)) (ko:=(.tmp 34)) (vo:=(.tmp 36)) (es:=mK (env)) (kt:=9) (et:=38) (td:=.string) (key:=.string p.1) (v:=.agg #[Vi p.2.k,Vi p.2.n,.string p.2.s]) Tryz.underlying137 Tryz.underlying9 (hf:=of_miss hg) ?_; clear hJ a w; intro a w hJ
   refine rk' hJ false 7 [] [(37,Vi (IntKind.i64.wrap ((k:Int) + 1)),Vi ((k:Int) + 1))] (.k (.out .normal) [] [4,11,12] [(13,Vi ((k:Int) + 1))]) (hc:=And.intro (kJ (by omega) (by omega)) (trivial)) ?_
   clear hJ a w; intro a w hJ
   replace hJ:=hJ.drop 1
   replace hJ:=hJ.drop 0
   exact pY ⟨k + 1,⟨h2,(hJ.tof [] (F':=[]) (by kernel_rfl)).to (by kernel_rfl) (by rw [htk]; unfold addF; rw [hg]; simp only; rw [envEs_snoc]; rfl) rfl,s3,by omega⟩,by omega⟩
 ·skip
  have hta:l.take k=l:=by rw [← hke,← hL,List.take_length]
  rw [hta] at hJ
  refine iY hJ (t:=decide ((k:Int) < (len:Int))) (decide_eq_false (by omega)) ?_
  refine rk' hJ false 2 [] [] (.k (.out (.exit 0)) [] [4] []) ?_
  clear hJ a w; intro a w hJ
  refine jY rfl ?_
  refine rk' hJ false 10 [] [] (.k (.out .ret) [] [] [(2,.map (some b1)),(3,Vi 0)]) ?_
  clear hJ a w; intro a w hJ
  refine gY (hQ [.map (some b1),Vi 0] _ [] hJ (.rtm hJ.j (.rtm hJ.j .nil)) (fJ _) rfl ?_).1
  exact ⟨b1,rfl,hJ.mapOut 0 (by kernel_rfl) rfl⟩
theorem get_snoc (s:ByteArray) (p:ByteArray × Vl):∀ l:Env,Env.get (l++[p]) s=match Env.get l s with | some v=>some v | none=>if s == p.1 then some p.2 else none
 | []=>by show Env.get [p] s=_; obtain ⟨a,b⟩:=p; unfold Env.get; cases s == a <;> rfl
 | (k,v) :: l=>by
  show Env.get ((k,v) :: (l++[p])) s=_
  rw [Env.get,Env.get]
  cases s == k
  ·simp only [Bool.false_eq_true,if_false]; exact get_snoc s p l
  ·rfl
theorem get_addF (s:ByteArray) (p:ByteArray × Vl) (env:Env):(addF env p).get s=match env.get s with | some v=>some v | none=>if s == p.1 then some p.2 else none:=by
 unfold addF
 cases hg:env.get p.1 with
 | none=>simp only; exact get_snoc s p env
 | some u =>
  simp only
  cases hs:env.get s with
  | some v=>rfl
  | none =>
   simp only
   by_cases he:(s == p.1)=true
   ·have:s=p.1:=(Go.MapKept.bytes_beq _ _).1 he
    rw [this] at hs; rw [hs] at hg; cases hg
   ·rw [if_neg he]
theorem factsE_get (s:ByteArray):∀ l:Env,(factsE l).get s=l.get s:=by
 have key:∀ (l env:Env),(l.foldl addF env).get s=match env.get s with | some v=>some v | none=>l.get s:=by
  intro l
  induction l with
  | nil=>intro env; simp only [List.foldl_nil]; cases env.get s <;> rfl
  | cons p l ih =>
   intro env
   rw [List.foldl_cons,ih,get_addF]
   obtain ⟨k,v⟩:=p
   cases hs:env.get s with
   | some u=>rfl
   | none =>
    simp only
    rw [Env.get]
    cases s == k <;> rfl
 intro l
 exact key l []
theorem get_mem {s:ByteArray} {v:Vl}:∀ {l:Env},Env.get l s=some v→(s,v)∈l
 | [],h=>by cases h
 | (k,u) :: l,h=>by
  rw [Env.get] at h
  by_cases he:(s == k)=true
  ·rw [if_pos he] at h
   have:s=k:=(Go.MapKept.bytes_beq _ _).1 he
   simp only [Option.some.injEq] at h
   subst this h; simp
  ·rw [if_neg he] at h
   exact List.mem_cons_of_mem _ (get_mem h)
theorem factsE_ok {l:Env} (h:∀ p∈l,OkV p.2):EnvOk (factsE l):=fun s v hs=>by
 rw [factsE_get] at hs
 exact h _ (get_mem hs)
theorem ev_congr {e f:Env} (h:∀ s,e.get s=f.get s):∀ (m:Nat) (x:Ex),(szE x).1≤m→nK e x=nK f x
 | 0,x,hm=>by have:=szE_pos x; omega
 | m + 1,x,hm=>by
  have hse:=szE_eq x
  rw [hse] at hm
  simp only at hm
  have hl:oK e x.args=oK f x.args:=by
   rw [pK,pK]
   exact List.map_congr_left fun y hy=>ev_congr h m y (by have:=(szL_mem hy).1; omega)
  rw [evalE_eq e x,evalE_eq f x,hl,h]
theorem ev_facts (l:Env) (x:Ex):nK (factsE l) x=nK l x:=ev_congr (fun s=>factsE_get s l) _ x (Nat.le_refl _)
theorem eval_any (x:Ex) (v:Value) (l:Env) (sl:Value) (h:Vw) (hx:IsArgs h x v) (hw:WfE x) (hb:(szE x).1≤60) (hb2:(szE x).2≤12) (hr:RS h 7 sl (zK l)) (hok:∀ p∈l,OkV p.2) (hl:l.length≤1000) :
  C0 Tryz.prog 57 #[.agg #[.int .i64 x.op,.int .i64 x.k,.int .i64 x.n,.string x.s,.string x.nm,v],sl] h (fun r _=>r=.tuple #[(nK l x).val,.int .i64 0]):=by
 obtain ⟨A,na,ca,rfl⟩:=hx.slice
 obtain ⟨A2,c2,rfl,-,-,-⟩:=hr.form
 rw [List.length_map] at *
 have hck:=fun H hq=>check_any x (.slice A na ca) H hq hw (by omega)
 rw [show chkE x=0 from by unfold chkE; rw [if_neg (by omega),if_neg (by omega)]] at hck
 have hfa:=fun H hq=>facts_any l (.slice A2 l.length c2) H hq hok hl
 have hof:=fun b H q1 q2=>of_any (factsE l) (factsE_ok hok) b _ x (.slice A na ca) H (Nat.le_refl _) q1 hw q2
 rw [ev_facts] at hof
 refine fY Tryz.func57 (c:=Tryz.f57.body.getD .skip) (N:=27) ?_
 intro hbx hbad Q hQ a w hJ
 refine rx' hJ false 27 [.own,.own,.b 1 0,.cl 87 #[.agg #[Vi x.op,Vi x.k,Vi x.n,.string x.s,.string x.nm,.slice A na ca]] (Vi 0)] [] (.new fun b1=>.new fun b2=>.ok (.ops [0,1,1] 1) [.seq [1,1,1]] [(2,Vp b1),(4,Vp b2),(16,.slice A2 l.length c2)] [.box b2 [Vi 0,Vi 0,Ve],.box b1 [Vi x.op,Vi x.k,Vi x.n,.string x.s,.string x.nm,.slice A na ca]] []) (ho:=And.intro (fun H sH=>hck _ (hx.sees sH)) (trivial)) (fun b1 b2 _=>by kernel_rfl) ?_
 clear hJ a w; intro b1 b2 a w hJ
 refine dY hJ 17 (hfa _ (hr.sees hJ.j.sees)) (fun _=>by kernel_rfl) ?_; clear hJ a w; rintro _ h3 a w s4 ⟨bm,rfl,hmp⟩ hJ
 refine rk' hJ false 21 [.b 1 0] [] (.k (.ops [0,1,1,1,1] 2) [.seq [1,1,1,1,1]] [4] [(24,.map (some bm)),(25,.agg #[Vi x.op,Vi x.k,Vi x.n,.string x.s,.string x.nm,.slice A na ca])]) ?_
 clear hJ a w; intro a w hJ
 refine rx' hJ false 6 [.cl 89 #[.map (some bm),.agg #[Vi x.op,Vi x.k,Vi x.n,.string x.s,.string x.nm,.slice A na ca]] (.agg #[Vi ((nK l x).k),Vi ((nK l x).n),.string ((nK l x).s)]),.b 0 0] [] (.ok (.out .ret) [] [(4,Vp b2),(5,Vi 0)] [.box b2 [Vi ((nK l x).k),Vi ((nK l x).n),.string ((nK l x).s)],.box b1 [Vi x.op,Vi x.k,Vi x.n,.string x.s,.string x.nm,.slice A na ca]] []) (ho:=And.intro (fun H sH=>hof _ _ (hx.sees (s4.trans sH)) (hmp.sees sH)) (trivial)) (fun _=>by kernel_rfl) ?_
 clear hJ a w; intro a w hJ
 refine gY (hQ [.agg #[Vi ((nK l x).k),Vi ((nK l x).n),.string ((nK l x).s)],Vi 0] _ [] hJ (.rcel hJ.j 0 (.rtm hJ.j .nil)) (fJ _) rfl ?_).1
 exact rfl
end Go.Proofs.YthckljafinhepaaGreat
