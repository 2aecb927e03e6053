/-
  The contract of eval's machine: of.
-/
import Derived.Test.YtjpgjnldeafpkaaGreatZB9
import Derived.Test.YtjpgjnldeafpkaaGreatZB27
set_option maxRecDepth 100000
namespace Go.Proofs.YtjpgjnldeafpkaaGreat
open Go.RowKit
theorem first_known {v:Vl} (h:OkV v) (hk:(dQ v).2=true):(dQ v).1=v∧v.k=2∧(v.n=0∨v.n=1):=by
 unfold dQ at hk ⊢
 split at hk
 ·cases hk
 ·rename_i h13
  rw [if_neg h13]
  have h2:v.k=2:=by simpa using hk
  refine ⟨rfl,h2,?_⟩
  rcases h with h | h | h
  ·rcases h with h | h | h
   ·omega
   ·exact h.2.1
   ·omega
  ·rw [h] at h2; cases h2
  ·omega
theorem hd_eval {env:Env} {l:List Ex} {i:Nat} {y:Ex} (h:l[i]?=some y):hdV (nK env l) i=mK env y:=by
 unfold hdV
 rw [oK,List.getD_eq_getElem?_getD,List.getElem?_map,h]; rfl
theorem of_lookup {env:Env} {s:ByteArray} {v:Vl} (h:env.get s=some v):∃ i,mfind .string (.string s) (lK env)=some (some (i,v.val)):=mfind_some (by rw [sget_env,h]; rfl)
theorem of_miss {env:Env} {s:ByteArray} (h:env.get s=none):mfind .string (.string s) (lK env)=some none:=mfind_none (by rw [sget_env,h]; rfl)
theorem args_at {h:Vw} {x:Ex} {vs:List Value} (hvs:AllArgs h x.args vs) {i:Nat} (hi:i < x.args.length):∃ y A n c,x.args[i]?=some y∧IsArgs h y (.slice A n c)∧(rK x.args vs)[i]?=some (exRow y (.slice A n c)):=by
 obtain ⟨y,hy⟩:∃ y,x.args[i]?=some y:=⟨_,List.getElem?_eq_getElem hi⟩
 obtain ⟨u,hu⟩:∃ u,vs[i]?=some u:=⟨_,List.getElem?_eq_getElem (by rw [hvs.len]; exact hi)⟩
 have hyu:=AllArgs.get hvs hy hu
 obtain ⟨A,n,c,rfl⟩:=hyu.slice
 exact ⟨y,A,n,c,hy,hyu,by show (List.zipWith exRow _ _)[i]?=_; rw [List.getElem?_zipWith,hy,hu]⟩
theorem of_any (env:Env) (he:EnvOk env) (b:Nat):∀ (m:Nat) (x:Ex) (sl:Value) (h:Vw),(szE x).1≤m→IsArgs h x sl→WfE x→MapAt h b (lK env) →
  C0 Tryz.prog 114 #[.map (some b),.agg #[.int .i64 x.op,.int .i64 x.k,.int .i64 x.n,.string x.s,.string x.nm,sl]] h (fun r _=>r=(mK env x).val)
 | 0,x,sl,h,hm,_,_,_=>by have:=nY x; omega
 | m + 1,x,sl,h,hm,hx,hw,hmp=>by
  have IH:=of_any env he b m
  have hse:=mY x
  rw [hse] at hm
  simp only at hm
  have hwl:=hw.list
  have hof:OfAll env b x.args:=fun y hy v H hyv hM=>IH y v H (by have:=(oY hy).1; omega) hyv (hwl.get hy) hM
  have hok:∀ y∈x.args,OkV (mK env y):=fun y hy=>evalE_ok he _ y (Nat.le_refl _) (hwl.get hy)
  have hev:=evalE_eq env x
  obtain ⟨A,len,c,rfl⟩:=hx.slice
  rcases hw.top with ⟨h1,h2,h3,h4,h5⟩ | ⟨h1,h2,h3,h4,h5,h6⟩ | ⟨h1,h2,h3,h4,h5,h6,h7⟩
  ·rw [if_pos h1] at hev
   rw [hev,h1]
   refine mQ Tryz.func114 (c:=Tryz.f114.body.getD .skip) (N:=93) ?_
   intro hbx hbad Q hQ
   refine go2 31 [.own,.own,.b 1 0,.b 1 1,.b 0 0] [] ?_
   intro b1 b2
   refine hQ.to [.agg #[Vi x.k,Vi x.n,.string x.s]] (fun H sH=>?_) (ix:=[0])
   exact rfl
  ·rw [if_neg (by omega),if_pos h1] at hev
   rw [h1]
   cases hg:env.get x.nm with
   | none =>
    rw [hg] at hev
    have hl:=of_miss hg
    rw [hev]
    refine mQ Tryz.func114 (c:=Tryz.f114.body.getD .skip) (N:=93) ?_
    intro hbx hbad Q hQ
    refine go2 34 [.own,.own,.b 1 0,.b 1 4] [] ?_
    intro b1 b2
    refine wQ b (es:=lK env) (td:=.string) (key:=.string x.nm) (r:=none) (.agg #[Vi 0,Vi 0,Ve]) (.tuple #[.agg #[Vi 0,Vi 0,Ve],.bool false]) (fun a w hJ=>MapAt.now (hmp.sees (Sees.refl _)) hJ) (hl) ?_
    refine go1 25 [.own,.b 0 0,.cl 131 #[Vi 5] (.agg #[Vi 5,Vi 5,Ve]),.b 1 0] [] ?_ (ho:=(And.intro (fun H sH=>wK 5 _) (trivial)))
    intro b3
    refine hQ.to [.agg #[Vi 5,Vi 5,Ve]] (fun H sH=>?_) (ix:=[1])
    exact rfl
   | some u =>
    rw [hg] at hev
    obtain ⟨i,hl⟩:=of_lookup hg
    rw [hev]
    refine mQ Tryz.func114 (c:=Tryz.f114.body.getD .skip) (N:=93) ?_
    intro hbx hbad Q hQ
    refine go2 34 [.own,.own,.b 1 0,.b 1 4] [] ?_
    intro b1 b2
    refine wQ b (es:=lK env) (td:=.string) (key:=.string x.nm) (r:=some (i,.agg #[Vi u.k,Vi u.n,.string u.s])) (.agg #[Vi 0,Vi 0,Ve]) (.tuple #[.agg #[Vi u.k,Vi u.n,.string u.s],.bool true]) (fun a w hJ=>MapAt.now (hmp.sees (Sees.refl _)) hJ) (hl) ?_
    refine go1 24 [.own,.b 0 0,.b 0 0,.b 1 0] [] ?_
    intro b3
    refine hQ.to [.agg #[Vi u.k,Vi u.n,.string u.s]] (fun H sH=>?_) (ix:=[1])
    exact rfl
  ·rw [if_neg (by omega),if_neg (by omega)] at hev
   have hap:=arity_pos h1 h2
   obtain ⟨vs,hr,hvs⟩:=hx.form
   obtain ⟨A',c',e',-⟩:=hr.form
   rw [sK hvs.len] at e'
   simp only [Value.slice.injEq] at e'
   obtain ⟨rfl,rfl,rfl⟩:=e'
   by_cases h15:x.op=15∨x.op=16
   ·have ha:arity x.op=2:=by unfold arity; rw [if_neg (by omega),if_neg (by omega),if_neg (by omega)]
    obtain ⟨y0,A0,n0,c0,hy0,-,-⟩:=args_at hvs (i:=0) (by omega)
    obtain ⟨y1,A1,n1,c1,hy1,hi1,hrow1⟩:=args_at hvs (i:=1) (by omega)
    have ok0:=hok y0 (List.mem_of_getElem? hy0)
    have ok1:=hok y1 (List.mem_of_getElem? hy1)
    have hf:=fun H q1 q2=>first_any env b x y0 (.slice A x.args.length c) H q1 q2 hy0 hof ok0
    have hb:=fun H q1 q2=>bool_any env b y1 (.slice A1 n1 c1) H q1 q2 (hof y1 (List.mem_of_getElem? hy1)) ok1
    rw [if_pos h15,hd_eval hy0,hd_eval hy1] at hev
    have hlen:1 < x.args.length:=by omega
    have hfk:=first_known ok0
    generalize hF:dQ (mK env y0)=f at *
    obtain ⟨⟨fk,fn,fs⟩,fb⟩:=f
    simp only at hev hfk hf
    rcases h15 with h15 | h15
    ·have ho:(x.op == 16)=false:=by rw [h15]; rfl
     rw [ho] at hev
     rw [h15] at hf ⊢
     cases fb with
     | false =>
      rw [if_pos (.inl rfl)] at hev
      rw [hev]
      refine mQ Tryz.func114 (c:=Tryz.f114.body.getD .skip) (N:=93) ?_
      intro hbx hbad Q hQ
      refine go3 79 [.own,.own,.b 1 0,.b 1 0,.cl 132 #[.map (some b),.agg #[Vi 15,Vi x.k,Vi x.n,.string x.s,.string x.nm,.slice A x.args.length c]] (.tuple #[.agg #[Vi fk,Vi fn,.string fs],.bool false]),.own,.b 0 0,.b 0 0,.b 1 0] [] ?_ (ho:=(And.intro (fun H sH=>hf _ (hx.sees sH) (hmp.sees sH)) (trivial)))
      intro b1 b2 b3
      refine hQ.to [.agg #[Vi fk,Vi fn,.string fs]] (fun H sH=>?_) (ix:=[1])
      exact rfl
     | true =>
      obtain ⟨e1,e2,e3⟩:=hfk rfl
      rw [← e1] at e2 e3
      simp only at e2 e3
      subst e2
      rcases e3 with rfl | rfl
      ·rw [if_pos (.inr (by decide))] at hev
       rw [hev]
       refine mQ Tryz.func114 (c:=Tryz.f114.body.getD .skip) (N:=93) ?_
       intro hbx hbad Q hQ
       refine go3 79 [.own,.own,.b 1 0,.b 1 0,.cl 132 #[.map (some b),.agg #[Vi 15,Vi x.k,Vi x.n,.string x.s,.string x.nm,.slice A x.args.length c]] (.tuple #[.agg #[Vi 2,Vi 0,.string fs],.bool true]),.own,.b 0 0,.b 0 1,.b 2 0,.b 0 0,.b 1 0] [] ?_ (ho:=(And.intro (fun H sH=>hf _ (hx.sees sH) (hmp.sees sH)) (trivial)))
       intro b1 b2 b3
       refine hQ.to [.agg #[Vi 2,Vi 0,.string fs]] (fun H sH=>?_) (ix:=[1])
       exact rfl
      ·rw [if_neg (by simp)] at hev
       rw [hev]
       refine mQ Tryz.func114 (c:=Tryz.f114.body.getD .skip) (N:=93) ?_
       intro hbx hbad Q hQ
       refine go3 76 [.own,.own,.b 1 0,.b 1 0,.cl 132 #[.map (some b),.agg #[Vi 15,Vi x.k,Vi x.n,.string x.s,.string x.nm,.slice A x.args.length c]] (.tuple #[.agg #[Vi 2,Vi 1,.string fs],.bool true]),.own,.b 0 0,.b 0 1,.b 2 0,.b 2 5] [] ?_ (ho:=(And.intro (fun H sH=>hf _ (hx.sees sH) (hmp.sees sH)) (trivial)))
       intro b1 b2 b3
       obtain ⟨b4,o5,rfl,-,c6⟩:=RS.row hr (hrow1)
       refine nQ (c6.sees (Sees.refl _)) ?_
       refine go0 9 [.ix b4 o5 x.args.length c 1,.f 0 0,.cl 133 #[.map (some b),.agg #[Vi y1.op,Vi y1.k,Vi y1.n,.string y1.s,.string y1.nm,.slice A1 n1 c1]] (.agg #[Vi ((boolV (mK env y1)).k),Vi ((boolV (mK env y1)).n),.string ((boolV (mK env y1)).s)]),.b 1 0] [] ?_ (ho:=(And.intro (by first | omega | (simp; omega)) (And.intro (fun H sH=>hb _ (hi1.sees sH) (hmp.sees sH)) (trivial))))
       refine hQ.to [.agg #[Vi ((boolV (mK env y1)).k),Vi ((boolV (mK env y1)).n),.string ((boolV (mK env y1)).s)]] (fun H sH=>?_) (ix:=[1])
       exact rfl
    ·have ho:(x.op == 16)=true:=by rw [h15]; rfl
     rw [ho] at hev
     rw [h15] at hf ⊢
     cases fb with
     | false =>
      rw [if_pos (.inl rfl)] at hev
      rw [hev]
      refine mQ Tryz.func114 (c:=Tryz.f114.body.getD .skip) (N:=93) ?_
      intro hbx hbad Q hQ
      refine go3 82 [.own,.own,.b 1 0,.b 1 0,.cl 132 #[.map (some b),.agg #[Vi 16,Vi x.k,Vi x.n,.string x.s,.string x.nm,.slice A x.args.length c]] (.tuple #[.agg #[Vi fk,Vi fn,.string fs],.bool false]),.own,.b 0 0,.b 0 0,.b 1 0] [] ?_ (ho:=(And.intro (fun H sH=>hf _ (hx.sees sH) (hmp.sees sH)) (trivial)))
      intro b1 b2 b3
      refine hQ.to [.agg #[Vi fk,Vi fn,.string fs]] (fun H sH=>?_) (ix:=[1])
      exact rfl
     | true =>
      obtain ⟨e1,e2,e3⟩:=hfk rfl
      rw [← e1] at e2 e3
      simp only at e2 e3
      subst e2
      rcases e3 with rfl | rfl
      ·rw [if_neg (by simp)] at hev
       rw [hev]
       refine mQ Tryz.func114 (c:=Tryz.f114.body.getD .skip) (N:=93) ?_
       intro hbx hbad Q hQ
       refine go3 79 [.own,.own,.b 1 0,.b 1 0,.cl 132 #[.map (some b),.agg #[Vi 16,Vi x.k,Vi x.n,.string x.s,.string x.nm,.slice A x.args.length c]] (.tuple #[.agg #[Vi 2,Vi 0,.string fs],.bool true]),.own,.b 0 0,.b 0 1,.b 2 0,.b 2 5] [] ?_ (ho:=(And.intro (fun H sH=>hf _ (hx.sees sH) (hmp.sees sH)) (trivial)))
       intro b1 b2 b3
       obtain ⟨b4,o5,rfl,-,c6⟩:=RS.row hr (hrow1)
       refine nQ (c6.sees (Sees.refl _)) ?_
       refine go0 9 [.ix b4 o5 x.args.length c 1,.f 0 0,.cl 133 #[.map (some b),.agg #[Vi y1.op,Vi y1.k,Vi y1.n,.string y1.s,.string y1.nm,.slice A1 n1 c1]] (.agg #[Vi ((boolV (mK env y1)).k),Vi ((boolV (mK env y1)).n),.string ((boolV (mK env y1)).s)]),.b 1 0] [] ?_ (ho:=(And.intro (by first | omega | (simp; omega)) (And.intro (fun H sH=>hb _ (hi1.sees sH) (hmp.sees sH)) (trivial))))
       refine hQ.to [.agg #[Vi ((boolV (mK env y1)).k),Vi ((boolV (mK env y1)).n),.string ((boolV (mK env y1)).s)]] (fun H sH=>?_) (ix:=[1])
       exact rfl
      ·rw [if_pos (.inr (by decide))] at hev
       rw [hev]
       refine mQ Tryz.func114 (c:=Tryz.f114.body.getD .skip) (N:=93) ?_
       intro hbx hbad Q hQ
       refine go3 82 [.own,.own,.b 1 0,.b 1 0,.cl 132 #[.map (some b),.agg #[Vi 16,Vi x.k,Vi x.n,.string x.s,.string x.nm,.slice A x.args.length c]] (.tuple #[.agg #[Vi 2,Vi 1,.string fs],.bool true]),.own,.b 0 0,.b 0 1,.b 2 0,.b 0 0,.b 1 0] [] ?_ (ho:=(And.intro (fun H sH=>hf _ (hx.sees sH) (hmp.sees sH)) (trivial)))
       intro b1 b2 b3
       refine hQ.to [.agg #[Vi 2,Vi 1,.string fs]] (fun H sH=>?_) (ix:=[1])
       exact rfl
   ·by_cases h17:x.op=17
    ·have ha:x.args.length=3:=by rw [h7,h17]; rfl
     obtain ⟨y0,A0,n0,c0,hy0,-,-⟩:=args_at hvs (i:=0) (by omega)
     obtain ⟨y1,A1,n1,c1,hy1,hi1,hrow1⟩:=args_at hvs (i:=1) (by omega)
     obtain ⟨y2,A2,n2,c2,hy2,hi2,hrow2⟩:=args_at hvs (i:=2) (by omega)
     have ok0:=hok y0 (List.mem_of_getElem? hy0)
     have ho1:=hof y1 (List.mem_of_getElem? hy1)
     have ho2:=hof y2 (List.mem_of_getElem? hy2)
     have hf:=fun H q1 q2=>first_any env b x y0 (.slice A x.args.length c) H q1 q2 hy0 hof ok0
     rw [if_neg h15,if_pos h17,hd_eval hy0,hd_eval hy1,hd_eval hy2] at hev
     have hfk:=first_known ok0
     generalize hF:dQ (mK env y0)=f at *
     obtain ⟨⟨fk,fn,fs⟩,fb⟩:=f
     simp only at hev hfk hf
     rw [h17] at hf ⊢
     cases fb with
     | false =>
      rw [if_pos rfl] at hev
      rw [hev]
      refine mQ Tryz.func114 (c:=Tryz.f114.body.getD .skip) (N:=93) ?_
      intro hbx hbad Q hQ
      refine go3 80 [.own,.own,.b 1 0,.b 1 0,.cl 132 #[.map (some b),.agg #[Vi 17,Vi x.k,Vi x.n,.string x.s,.string x.nm,.slice A x.args.length c]] (.tuple #[.agg #[Vi fk,Vi fn,.string fs],.bool false]),.own,.b 0 0,.b 0 0,.b 1 0] [] ?_ (ho:=(And.intro (fun H sH=>hf _ (hx.sees sH) (hmp.sees sH)) (trivial)))
      intro b1 b2 b3
      refine hQ.to [.agg #[Vi fk,Vi fn,.string fs]] (fun H sH=>?_) (ix:=[1])
      exact rfl
     | true =>
      rw [if_neg (by simp)] at hev
      obtain ⟨e1,e2,e3⟩:=hfk rfl
      rw [← e1] at e2 e3
      simp only at e2 e3
      subst e2
      rcases e3 with rfl | rfl
      ·rw [if_neg (by decide)] at hev
       rw [hev]
       refine mQ Tryz.func114 (c:=Tryz.f114.body.getD .skip) (N:=93) ?_
       intro hbx hbad Q hQ
       refine go3 80 [.own,.own,.b 1 0,.b 1 0,.cl 132 #[.map (some b),.agg #[Vi 17,Vi x.k,Vi x.n,.string x.s,.string x.nm,.slice A x.args.length c]] (.tuple #[.agg #[Vi 2,Vi 0,.string fs],.bool true]),.own,.b 0 0,.b 2 5,.b 0 1] [] ?_ (ho:=(And.intro (fun H sH=>hf _ (hx.sees sH) (hmp.sees sH)) (trivial)))
       intro b1 b2 b3
       obtain ⟨b4,o5,rfl,-,c6⟩:=RS.row hr (hrow2)
       refine nQ (c6.sees (Sees.refl _)) ?_
       refine go0 9 [.ix b4 o5 x.args.length c 2,.f 0 0,.cl 114 #[.map (some b),.agg #[Vi y2.op,Vi y2.k,Vi y2.n,.string y2.s,.string y2.nm,.slice A2 n2 c2]] (.agg #[Vi ((mK env y2).k),Vi ((mK env y2).n),.string ((mK env y2).s)]),.b 1 0] [] ?_ (ho:=(And.intro (by first | omega | (simp; omega)) (And.intro (fun H sH=>ho2 _ _ (hi2.sees sH) (hmp.sees sH)) (trivial))))
       refine hQ.to [.agg #[Vi ((mK env y2).k),Vi ((mK env y2).n),.string ((mK env y2).s)]] (fun H sH=>?_) (ix:=[1])
       exact rfl
      ·rw [if_pos rfl] at hev
       rw [hev]
       refine mQ Tryz.func114 (c:=Tryz.f114.body.getD .skip) (N:=93) ?_
       intro hbx hbad Q hQ
       refine go3 80 [.own,.own,.b 1 0,.b 1 0,.cl 132 #[.map (some b),.agg #[Vi 17,Vi x.k,Vi x.n,.string x.s,.string x.nm,.slice A x.args.length c]] (.tuple #[.agg #[Vi 2,Vi 1,.string fs],.bool true]),.own,.b 0 0,.b 2 5,.b 0 1] [] ?_ (ho:=(And.intro (fun H sH=>hf _ (hx.sees sH) (hmp.sees sH)) (trivial)))
       intro b1 b2 b3
       obtain ⟨b4,o5,rfl,-,c6⟩:=RS.row hr (hrow1)
       refine nQ (c6.sees (Sees.refl _)) ?_
       refine go0 9 [.ix b4 o5 x.args.length c 1,.f 0 0,.cl 114 #[.map (some b),.agg #[Vi y1.op,Vi y1.k,Vi y1.n,.string y1.s,.string y1.nm,.slice A1 n1 c1]] (.agg #[Vi ((mK env y1).k),Vi ((mK env y1).n),.string ((mK env y1).s)]),.b 1 0] [] ?_ (ho:=(And.intro (by first | omega | (simp; omega)) (And.intro (fun H sH=>ho1 _ _ (hi1.sees sH) (hmp.sees sH)) (trivial))))
       refine hQ.to [.agg #[Vi ((mK env y1).k),Vi ((mK env y1).n),.string ((mK env y1).s)]] (fun H sH=>?_) (ix:=[1])
       exact rfl
    ·rw [if_neg h15,if_neg h17] at hev
     have hall:=fun H q1 q2=>all_any env b x (.slice A x.args.length c) H q1 q2 hof (by omega)
     have hlv:(nK env x.args).length=arity x.op:=by rw [oK,List.length_map,h7]
     have hvk:∀ v∈nK env x.args,OkV v:=fun v hv=>by
      rw [oK] at hv
      obtain ⟨y,hy,rfl⟩:=List.mem_map.1 hv
      exact hok y hy
     rcases hk:qV none (nK env x.args) with _ | u
     ·rw [hk] at hev hall
      obtain ⟨-,g⟩:=lack_none hk
      have hap2:=fun sl H q=>apply_any x.op (nK env x.args) sl H q (fun v hv=>ok_known (hvk v hv) (g v hv).2 (g v hv).1) h1 h2 (by omega) (by omega) h17 hlv
      rw [hev]
      refine mQ Tryz.func114 (c:=Tryz.f114.body.getD .skip) (N:=93) ?_
      intro hbx hbad Q hQ
      refine go2 57 [.own,.own,.b 1 0,.b 1 5] [(16,.bool (x.op == 1),.bool false),(20,.bool (x.op == 2),.bool false),(32,.bool (x.op == 15),.bool false),(33,.bool (x.op == 16),.bool false),(59,.bool (x.op == 17),.bool false)] ?_ (hc:=(And.intro (congrArg Value.bool (beq_eq_false_iff_ne.2 (by omega))) (And.intro (congrArg Value.bool (beq_eq_false_iff_ne.2 (by omega))) (And.intro (congrArg Value.bool (beq_eq_false_iff_ne.2 (by omega))) (And.intro (congrArg Value.bool (beq_eq_false_iff_ne.2 (by omega))) (And.intro (congrArg Value.bool (beq_eq_false_iff_ne.2 (by omega))) (trivial)))))))
      intro b1 b2
      refine jQ (fun H sH=>hall _ (hx.sees sH) (hmp.sees sH)) ?_; rintro _ W3 S4 ⟨Aq,nq,cq,uq,rfl,rfl,hq⟩
      refine go1 24 [.own,.b 0 0,.b 0 0,.b 2 0] [] ?_
      intro b5
      have hq2:=(hq rfl).2
      refine go0 5 [.cl 135 #[Vi x.op,.slice Aq nq cq] (.agg #[Vi ((nJ x.op (nK env x.args)).k),Vi ((nJ x.op (nK env x.args)).n),.string ((nJ x.op (nK env x.args)).s)]),.b 1 0] [] ?_ (ho:=(And.intro (fun H sH=>hap2 _ _ (hq2.sees sH)) (trivial)))
      refine hQ.to [.agg #[Vi ((nJ x.op (nK env x.args)).k),Vi ((nJ x.op (nK env x.args)).n),.string ((nJ x.op (nK env x.args)).s)]] (fun H sH=>?_) (ix:=[1])
      exact rfl
     ·rw [hk] at hev hall
      obtain ⟨hu45,-⟩:=lack_some hk (fun w hw=>by cases hw)
      rw [hev]
      refine mQ Tryz.func114 (c:=Tryz.f114.body.getD .skip) (N:=93) ?_
      intro hbx hbad Q hQ
      refine go2 57 [.own,.own,.b 1 0,.b 1 5] [(16,.bool (x.op == 1),.bool false),(20,.bool (x.op == 2),.bool false),(32,.bool (x.op == 15),.bool false),(33,.bool (x.op == 16),.bool false),(59,.bool (x.op == 17),.bool false)] ?_ (hc:=(And.intro (congrArg Value.bool (beq_eq_false_iff_ne.2 (by omega))) (And.intro (congrArg Value.bool (beq_eq_false_iff_ne.2 (by omega))) (And.intro (congrArg Value.bool (beq_eq_false_iff_ne.2 (by omega))) (And.intro (congrArg Value.bool (beq_eq_false_iff_ne.2 (by omega))) (And.intro (congrArg Value.bool (beq_eq_false_iff_ne.2 (by omega))) (trivial)))))))
      intro b1 b2
      refine jQ (fun H sH=>hall _ (hx.sees sH) (hmp.sees sH)) ?_; rintro _ W3 S4 ⟨Aq,nq,cq,uq,rfl,rfl,hq⟩
      refine go1 25 [.own,.b 0 0,.b 0 0,.b 0 0,.b 1 0] [(87,.bool (u.k != 0),.bool true)] ?_ (hc:=(And.intro (congrArg Value.bool (bne_iff_ne.2 (by omega))) (trivial)))
      intro b5
      refine hQ.to [.agg #[Vi u.k,Vi u.n,.string u.s]] (fun H sH=>?_) (ix:=[1])
      exact rfl
end Go.Proofs.YtjpgjnldeafpkaaGreat
namespace Go.Proofs.YtjpgjnldeafpkaaGreat
open Go.RowKit
theorem check_pending (h:Vw):C0 Tryz.prog 54 #[.agg #[.int .i64 4,.int .i64 0,.string ⟨#[]⟩]] h (fun v _=>v=.int .i64 0):=by
 refine mQ Tryz.func54 (c:=Tryz.f54.body.getD .skip) (N:=50) ?_
 intro hbx hbad Q hQ
 refine go1 70 [.own,.b 0 0,.b 0 1,.b 0 2] [] ?_
 intro b1
 refine hQ.to [Vi 0] (fun H sH=>?_)
 exact rfl
theorem check_fault (n:Int) (h:Vw) (h0:1≤n) (h1:n≤15):C0 Tryz.prog 54 #[.agg #[.int .i64 5,.int .i64 n,.string ⟨#[]⟩]] h (fun v _=>v=.int .i64 0):=by
 refine mQ Tryz.func54 (c:=Tryz.f54.body.getD .skip) (N:=50) ?_
 intro hbx hbad Q hQ
 refine go1 82 [.own,.b 0 0,.b 0 1,.b 0 1,.b 0 2] [(41,.bool (decide (n < 1)),.bool false),(45,.bool (decide (n > 15)),.bool false)] ?_ (hc:=(And.intro (congrArg Value.bool (decide_eq_false (by omega))) (And.intro (congrArg Value.bool (decide_eq_false (by omega))) (trivial))))
 intro b1
 refine hQ.to [Vi 0] (fun H sH=>?_)
 exact rfl
theorem check_okv (v:Vl) (h:Vw) (hv:OkV v):C0 Tryz.prog 54 #[v.val] h (fun r _=>r=.int .i64 0):=by
 rcases hv with hv | rfl | ⟨h1,h2,h3,h4⟩
 ·exact C0.of_gives (fun w=>value_check v.k v.n v.s w hv) h
 ·exact check_pending h
 ·obtain ⟨k,n,s⟩:=v
  simp only at h1 h2 h3 h4
  subst h1 h4
  exact check_fault n h h2 h3
def addF (env:Env) (p:ByteArray × Vl):Env:=match env.get p.1 with
 | some _=>env
 | none=>env++[p]
def factsE (l:Env):Env:=l.foldl addF []
theorem factsE_snoc (l:Env) (p:ByteArray × Vl):factsE (l++[p])=addF (factsE l) p:=by unfold factsE; rw [List.foldl_append]; rfl
theorem envEs_snoc (l:Env) (p:ByteArray × Vl):lK (l++[p])=lK l++[(.string p.1,p.2.val)]:=by simp [lK,kY]
theorem facts_any (l:Env) (sl:Value) (h:Vw) (hr:RS h 7 sl (xK l)) (hok:∀ p∈l,OkV p.2) (hl:l.length≤1000) :
  C0 Tryz.prog 113 #[sl] h (fun v h'=>∃ b,v=.tuple #[.map (some b),.int .i64 0]∧MapAt h' b (lK (factsE l))):=by
 obtain ⟨A,cap,rfl,-,-,-⟩:=hr.form
 rw [List.length_map] at *
 generalize hL:l.length=len at *
 refine mQ Tryz.func113 (c:=Tryz.f113.body.getD .skip) (N:=39) ?_
 intro hbx hbad Q hQ
 refine go0 8 [] [] ?_
 refine g_mapmake ?_; intro b1
 refine go0 12 [] [] ?_
 refine vQ [0,1,0,1,1] [.block 0,.seq [1,1,1]] (fun (k:Nat) X=>∃ (W2:Vw) ,X W2 [(4,.map (some b1)),(11,.slice A len cap),(12,Vi (len:Int)),(13,Vi (k:Int))] [.map b1 (lK (factsE (l.take k)))] []∧Sees h W2∧(k≤len)) (fun k=>len - k) (0) (fun X q=>⟨h,q _ _ _ _ ⟨rfl,by kernel_rfl⟩,Sees.refl _,Nat.zero_le _⟩) ?_
 rintro k a w ⟨W2,hJ,S3,hk⟩; refine zQ hJ ?_; clear hJ a w
 refine go0 6 [] [] ?_
 rcases (by omega:k < len∨len=k) with hlt | hke
 ·obtain ⟨p,hp⟩:∃ p,l[k]?=some p:=⟨_,List.getElem?_eq_getElem (by omega)⟩
  have hrow:(xK l)[k]?=some (fcRow p):=by rw [List.getElem?_map,hp]; rfl
  have hck:=fun H=>check_okv p.2 H (hok p (List.mem_of_getElem? hp))
  have htk:factsE (l.take (k + 1))=addF (factsE (l.take k)) p:=by rw [rY l k p hp,factsE_snoc]
  generalize factsE (l.take k)=env at *
  cases hg:env.get p.1 with
  | some u =>
   obtain ⟨i,hi⟩:=of_lookup hg
   refine dV (t:=decide ((k:Int) < (len:Int))) (decide_eq_true (by omega)) ?_
   refine go0 6 [] [] ?_
   obtain ⟨b4,o5,rfl,-,c6⟩:=RS.row hr (hrow)
   refine nQ (c6.sees S3) ?_
   refine go1 29 [.ix b4 o5 len cap k,.f 0 0,.own,.b 0 0,.b 0 4,.cl 54 #[.agg #[Vi p.2.k,Vi p.2.n,.string p.2.s]] (Vi 0),.b 0 0] [] ?_ (ho:=(And.intro (by first | omega | (simp; omega)) (And.intro (fun H sH=>hck _) (trivial))))
   intro b7
   refine g_mapget 1 b1 (es:=lK (env)) (td:=.string) (key:=.string p.1) (r:=some (i,.agg #[Vi u.k,Vi u.n,.string u.s])) (.agg #[Vi 0,Vi 0,Ve]) (.tuple #[.agg #[Vi u.k,Vi u.n,.string u.s],.bool true]) (hi) ?_
   refine go1 22 [.own,.b 0 0] [(37,Vi (IntKind.i64.wrap ((k:Int) + 1)),Vi ((k:Int) + 1))] ?_ (hc:=(And.intro (jJ (by omega) (by omega)) (trivial)))
   intro b8
   refine tQ [(4,.map (some b1)),(11,.slice (some ⟨b4,o5,none⟩) len cap),(12,Vi (len:Int)),(13,Vi ((k:Int) + 1))] [.map b1 (lK (env))] [] ?_
   exact cV (k + 1) (fun X q=>⟨W2,q _ _ _ _ (aY (by rw [htk]; unfold addF; rw [hg]; try rfl)),S3,by omega⟩) (by omega)
  | none =>
   refine dV (t:=decide ((k:Int) < (len:Int))) (decide_eq_true (by omega)) ?_
   refine go0 6 [] [] ?_
   obtain ⟨b9,o10,rfl,-,c11⟩:=RS.row hr (hrow)
   refine nQ (c11.sees S3) ?_
   refine go1 29 [.ix b9 o10 len cap k,.f 0 0,.own,.b 0 0,.b 0 4,.cl 54 #[.agg #[Vi p.2.k,Vi p.2.n,.string p.2.s]] (Vi 0),.b 0 0] [] ?_ (ho:=(And.intro (by first | omega | (simp; omega)) (And.intro (fun H sH=>hck _) (trivial))))
   intro b12
   refine g_mapget 1 b1 (es:=lK (env)) (td:=.string) (key:=.string p.1) (r:=none) (.agg #[Vi 0,Vi 0,Ve]) (.tuple #[.agg #[Vi 0,Vi 0,Ve],.bool false]) (of_miss hg) ?_
   refine go1 21 [.own,.b 0 0,.b 1 0,.b 1 4] [] ?_
   intro b13
   refine xQ 2 b1 (es:=lK (env)) (td:=.string) (key:=.string p.1) (of_miss hg) ?_
   refine go0 7 [] [(37,Vi (IntKind.i64.wrap ((k:Int) + 1)),Vi ((k:Int) + 1))] ?_ (hc:=(And.intro (jJ (by omega) (by omega)) (trivial)))
   refine tQ [(4,.map (some b1)),(11,.slice (some ⟨b9,o10,none⟩) len cap),(12,Vi (len:Int)),(13,Vi ((k:Int) + 1))] [.map b1 ((lK (env))++[(.string p.1,.agg #[Vi p.2.k,Vi p.2.n,.string p.2.s])])] [] ?_
   exact cV (k + 1) (fun X q=>⟨W2,q _ _ _ _ (aY (by rw [htk]; unfold addF; rw [hg]; simp only; rw [envEs_snoc]; try rfl)),S3,by omega⟩) (by omega)
 ·skip
  have hta:l.take k=l:=by rw [← hke,← hL,List.take_length]
  rw [hta]
  refine oQ (t:=decide ((k:Int) < (len:Int))) (decide_eq_false (by omega)) ?_
  refine go0 2 [] [] ?_
  refine uQ ?_
  refine go0 10 [] [] ?_
  refine tQ [(2,.map (some b1)),(3,Vi 0)] [.map b1 (lK (factsE l))] [] ?_
  refine hQ.toJ [.map (some b1),Vi 0] [] (fun a w hJ=>?_)
  exact ⟨b1,rfl,hJ.mapOut 0 (by kernel_rfl) rfl⟩
theorem get_snoc (s:ByteArray) (p:ByteArray × Vl):∀ l:Env,Env.get (l++[p]) s=match Env.get l s with | some v=>some v | none=>if s == p.1 then some p.2 else none
 | []=>by show Env.get [p] s=_; obtain ⟨a,b⟩:=p; unfold Env.get; cases s == a <;> rfl
 | (k,v) :: l=>by
  show Env.get ((k,v) :: (l++[p])) s=_
  rw [Env.get,Env.get]
  cases s == k
  ·simp only [Bool.false_eq_true,if_false]; exact get_snoc s p l
  ·rfl
theorem get_addF (s:ByteArray) (p:ByteArray × Vl) (env:Env):(addF env p).get s=match env.get s with | some v=>some v | none=>if s == p.1 then some p.2 else none:=by
 unfold addF
 cases hg:env.get p.1 with
 | none=>simp only; exact get_snoc s p env
 | some u =>
  simp only
  cases hs:env.get s with
  | some v=>rfl
  | none =>
   simp only
   by_cases he:(s == p.1)=true
   ·have:s=p.1:=(Go.MapKept.bytes_beq _ _).1 he
    rw [this] at hs; rw [hs] at hg; cases hg
   ·rw [if_neg he]
theorem factsE_get (s:ByteArray):∀ l:Env,(factsE l).get s=l.get s:=by
 have key:∀ (l env:Env),(l.foldl addF env).get s=match env.get s with | some v=>some v | none=>l.get s:=by
  intro l
  induction l with
  | nil=>intro env; simp only [List.foldl_nil]; cases env.get s <;> rfl
  | cons p l ih =>
   intro env
   rw [List.foldl_cons,ih,get_addF]
   obtain ⟨k,v⟩:=p
   cases hs:env.get s with
   | some u=>rfl
   | none =>
    simp only
    rw [Env.get]
    cases s == k <;> rfl
 intro l
 exact key l []
theorem get_mem {s:ByteArray} {v:Vl}:∀ {l:Env},Env.get l s=some v→(s,v)∈l
 | [],h=>by cases h
 | (k,u) :: l,h=>by
  rw [Env.get] at h
  by_cases he:(s == k)=true
  ·rw [if_pos he] at h
   have:s=k:=(Go.MapKept.bytes_beq _ _).1 he
   simp only [Option.some.injEq] at h
   subst this h; simp
  ·rw [if_neg he] at h
   exact List.mem_cons_of_mem _ (get_mem h)
theorem factsE_ok {l:Env} (h:∀ p∈l,OkV p.2):EnvOk (factsE l):=fun s v hs=>by
 rw [factsE_get] at hs
 exact h _ (get_mem hs)
theorem ev_congr {e f:Env} (h:∀ s,e.get s=f.get s):∀ (m:Nat) (x:Ex),(szE x).1≤m→mK e x=mK f x
 | 0,x,hm=>by have:=nY x; omega
 | m + 1,x,hm=>by
  have hse:=mY x
  rw [hse] at hm
  simp only at hm
  have hl:nK e x.args=nK f x.args:=by
   rw [oK,oK]
   exact List.map_congr_left fun y hy=>ev_congr h m y (by have:=(oY hy).1; omega)
  rw [evalE_eq e x,evalE_eq f x,hl,h]
theorem ev_facts (l:Env) (x:Ex):mK (factsE l) x=mK l x:=ev_congr (fun s=>factsE_get s l) _ x (Nat.le_refl _)
theorem eval_any (x:Ex) (v:Value) (l:Env) (sl:Value) (h:Vw) (hx:IsArgs h x v) (hw:WfE x) (hb:(szE x).1≤60) (hb2:(szE x).2≤12) (hr:RS h 7 sl (xK l)) (hok:∀ p∈l,OkV p.2) (hl:l.length≤1000) :
  C0 Tryz.prog 77 #[.agg #[.int .i64 x.op,.int .i64 x.k,.int .i64 x.n,.string x.s,.string x.nm,v],sl] h (fun r _=>r=.tuple #[(mK l x).val,.int .i64 0]):=by
 obtain ⟨A,na,ca,rfl⟩:=hx.slice
 obtain ⟨A2,c2,rfl,-,-,-⟩:=hr.form
 rw [List.length_map] at *
 have hck:=fun H hq=>check_any x (.slice A na ca) H hq hw (by omega)
 rw [show chkE x=0 from by unfold chkE; rw [if_neg (by omega),if_neg (by omega)]] at hck
 have hfa:=fun H hq=>facts_any l (.slice A2 l.length c2) H hq hok hl
 have hof:=fun b H q1 q2=>of_any (factsE l) (factsE_ok hok) b _ x (.slice A na ca) H (Nat.le_refl _) q1 hw q2
 rw [ev_facts] at hof
 refine mQ Tryz.func77 (c:=Tryz.f77.body.getD .skip) (N:=27) ?_
 intro hbx hbad Q hQ
 refine go2 27 [.own,.own,.b 1 0,.cl 112 #[.agg #[Vi x.op,Vi x.k,Vi x.n,.string x.s,.string x.nm,.slice A na ca]] (Vi 0)] [] ?_ (ho:=(And.intro (fun H sH=>hck _ (hx.sees sH)) (trivial)))
 intro b1 b2
 refine jQ (fun H sH=>hfa _ (hr.sees sH)) ?_; rintro _ W3 S4 ⟨bm,rfl,hmp⟩
 refine go0 21 [.b 1 0] [] ?_
 refine go0 6 [.cl 114 #[.map (some bm),.agg #[Vi x.op,Vi x.k,Vi x.n,.string x.s,.string x.nm,.slice A na ca]] (.agg #[Vi ((mK l x).k),Vi ((mK l x).n),.string ((mK l x).s)]),.b 0 0] [] ?_ (ho:=(And.intro (fun H sH=>hof _ _ (hx.sees (S4.trans sH)) (hmp.sees sH)) (trivial)))
 refine hQ.to [.agg #[Vi ((mK l x).k),Vi ((mK l x).n),.string ((mK l x).s)],Vi 0] (fun H sH=>?_) (ix:=[0])
 exact rfl
end Go.Proofs.YtjpgjnldeafpkaaGreat
