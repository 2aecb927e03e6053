/-
  For all raw things PlayPages returns true: each page that a play answers is the page where it stands. No condition.
-/
import Derived.Test.YtmoahpojchndiaaGreatPP9
import Derived.Test.YtmoahpojchndiaaGreatPP52
import Derived.Test.YtmoahpojchndiaaGreatPP53
set_option maxRecDepth 100000
namespace Go.Proofs.YtmoahpojchndiaaGreat
open Go.RowKit
set_option linter.unusedVariables false
theorem scan_lo {pass:Nat -> Bool × Bool}:∀ (k j:Nat) {a:Nat},scanF pass k j=some a -> j <= a
 | 0,j,a,h=>by rw [scanF] at h; have:=Option.some.inj h; omega
 | k + 1,j,a,h=>by
  rw [scanF] at h
  split at h
  ·have:=scan_lo k (j + 1) h; omega
  ·split at h
   ·have:=Option.some.inj h; omega
   ·cases h
theorem next_lo {E:Eg} {t a:Nat} (h:nextE E t=some a):t < a:=by
 unfold nextE at h
 split at h
 ·split at h
  ·exact scan_lo _ _ h
  ·cases h
 ·cases h
theorem snd_t (s:Ps) (E':Eg) (on more:List Lt):(sndF s E' on more).2.t=s.t:=by
 unfold sndF
 split <;> rfl
theorem ev_pages {fm:Fm} {p:Pol} {ρ:List Int} {lv:Nat -> Nat} {k:Nat} {s:Ps} (hs:PsOk fm p ρ lv k s) (e:Ev) (he:EvOk fm.fields e) :
  (¬ ((evF ρ s e).1=0 /\ (e.kind=7\/e.kind=8)) -> (evF ρ s e).2.t=s.t) /\ ((evF ρ s e).1=0 -> e.kind=7 -> s.t < (evF ρ s e).2.t) /\ ((evF ρ s e).1=0 -> e.kind=8 -> (evF ρ s e).2.t < s.t):=by
 have k1:=he.k1
 have k8:=he.k8
 by_cases h0:(evF ρ s e).1=0
 ·by_cases h7:e.kind=7
  ·refine ⟨fun q=>absurd ⟨h0,.inl h7⟩ q,fun _ _=>?_,fun _ q=>by omega⟩
   unfold evF at h0 ⊢
   rw [if_neg (by omega),if_neg (by omega),if_neg (by omega),if_neg (by omega),if_neg (by omega),if_neg (by omega),if_pos h7] at h0 ⊢
   cases hx:nextE s.E s.t with
   | some a=>exact next_lo hx
   | none=>rw [hx] at h0; simp only at h0; split at h0 <;> cases h0
  ·by_cases h8:e.kind=8
   ·refine ⟨fun q=>absurd ⟨h0,.inr h8⟩ q,fun _ q=>by omega,fun _ _=>?_⟩
    unfold evF at h0 ⊢
    rw [if_neg (by omega),if_neg (by omega),if_neg (by omega),if_neg (by omega),if_neg (by omega),if_neg (by omega),if_neg (by omega)] at h0 ⊢
    cases hx:s.path.getLast? with
    | some a =>
     have ep:=path_last hx
     have:=(List.pairwise_append.1 hs.pk.rise).2.2 a (by rw [ep]; simp) (s.t:Int) (by simp)
     have:=hs.pk.lo a (by rw [ep]; simp)
     show a.toNat < s.t
     omega
    | none=>rw [hx] at h0; cases h0
   ·refine ⟨fun _=>?_,fun _ q=>absurd q h7,fun _ q=>absurd q h8⟩
    unfold evF
    split
    ·split
     ·exact snd_t _ _ _ _
     ·rfl
    ·split
     ·exact snd_t _ _ _ _
     ·split
      ·split
       ·rfl
       ·split <;> rfl
      ·split
       ·split <;> rfl
       ·split
        ·split
         ·rfl
         ·split <;> rfl
        ·split
         ·split
          ·rfl
          ·split
           ·rfl
           ·exact snd_t _ _ _ _
         ·omega
 ·exact ⟨fun _=>by rw [ev_fail h0],fun q=>absurd q h0,fun q=>absurd q h0⟩
theorem rp_at {ρ:List Int} {s:Ps} {es:List Ev} {k:Nat} {e:Ev} (h:es[k]?=some e):(rpP ρ s es)[k]?=some ((evF ρ (stP ρ s (es.take k)) e).1,(evF ρ (stP ρ s (es.take k)) e).2.t):=by
 have h1:(rpP ρ s es).take (k + 1)=rpP ρ s (es.take (k + 1)):=rpP_take ρ es s (k + 1)
 have hl:=(List.getElem?_eq_some_iff.1 h).1
 have h2:((rpP ρ s es).take (k + 1))[k]?=(rpP ρ s (es.take k++[e]))[k]?:=by rw [h1,List.take_add_one,h]; rfl
 rw [List.getElem?_take_of_lt (Nat.lt_succ_self k),rpP_snoc,List.getElem?_append_right (by rw [rpP_len,List.length_take]; omega)] at h2
 rw [h2,rpP_len,List.length_take,Nat.min_eq_left (by omega),Nat.sub_self]; rfl
set_option maxHeartbeats 2000000 in
theorem playPages_c (l m:List RawD) (sl sm:Value) (h:Vw) (hl:RS h 4 sl (l.map RawD.cs)) (hm:RS h 4 sm (m.map RawD.cs)) (ll:l.length * 40 <= reachBytes) (lm:m.length * 40 <= reachBytes) (ol:∀ r∈l,r.ok) (om:∀ r∈m,r.ok) :
  C0 Tryz.prog 10 #[sl,sm] h (fun v _=>v=.bool true):=by
 have hPol:=fun H=>c_policy 3 10 30 H (by decide) (by decide) (by decide) (by decide) (by decide) (by decide)
 have hp:=polE_ok 3 10 30
 generalize polE 3 10 30=P at *
 have hFm:=fun H q=>form_u2 l sl H q ll ol
 have hEv:=fun u H q1 q2=>(events_l l m 40 (by decide) om u sm H q1 q2 rfl).mono (R':=fun v h'=>∃ (A:Option Addr) (c:Nat),v=.slice A (evsE (gQ l).fields m 40).length c /\ RS h' 6 (.slice A (evsE (gQ l).fields m 40).length c) ((evsE (gQ l).fields m 40).map Ev.cells)) fun _ _ _ ⟨u,z1,z2⟩=>⟨sA u,sC u,z1,z2⟩
 have hel:=evs_len (gQ l).fields m 40
 have hes:=evs_l l m 40
 generalize evsE (gQ l).fields m 40=es at *
 have hrl:(repF l P es).length=es.length:=rpP_len _ es _
 have hR:=fun u sv H q1 q2=>(run_l l hp es hes (by omega) u sv H q1 q2).mono fun _ _ _ z=>runR_open hrl z
 have hO:∀ k,k <= es.length -> PsOk (gQ l) P (rhF l) (lvF l) k (endF l P (es.take k)):=fun k hk=>by
  have:=endF_ok l hp (es.take k) (fun e he=>hes e (List.mem_of_mem_take he)) (by rw [List.length_take]; omega)
  rw [List.length_take,Nat.min_eq_left hk] at this
  exact this
 have hstep:∀ (k:Nat) (e:Ev),es[k]?=some e -> ∃ (x:Int) (t:Nat),(repF l P es)[k]?=some (x,t) /\ (endF l P (es.take (k + 1))).t=t /\ (¬ (x=0 /\ (e.kind=7\/e.kind=8)) -> t=(endF l P (es.take k)).t) /\ (x=0 -> e.kind=7 -> (endF l P (es.take k)).t < t) /\ (x=0 -> e.kind=8 -> t < (endF l P (es.take k)).t):=fun k e q=>by
  have hkl:=(List.getElem?_eq_some_iff.1 q).1
  obtain ⟨a,b,c⟩:=ev_pages (hO k (by omega)) e (hes e (List.mem_of_getElem? q))
  exact ⟨_,_,rp_at q,congrArg Ps.t (stP_take q).1,a,b,c⟩
 have hend:(endF l P es).t=(endF l P (es.take es.length)).t:=by rw [List.take_length]
 have h00:0=(endF l P (es.take 0)).t:=rfl
 obtain ⟨at_,hat⟩:∃ at_:Nat -> Nat,(fun k=>(endF l P (es.take k)).t)=at_:=⟨_,rfl⟩
 have hat:∀ k,(endF l P (es.take k)).t=at_ k:=fun k=>congrFun hat k
 rw [hat] at hend h00
 have hstep:∀ (k:Nat) (e:Ev),es[k]?=some e -> ∃ (x:Int) (t:Nat),(repF l P es)[k]?=some (x,t) /\ at_ (k + 1)=t /\ (¬ (x=0 /\ (e.kind=7\/e.kind=8)) -> t=at_ k) /\ (x=0 -> e.kind=7 -> at_ k < t) /\ (x=0 -> e.kind=8 -> t < at_ k):=fun k e q=>by
  have:=hstep k e q
  rw [hat,hat] at this
  exact this
 clear hO hat
 generalize repF l P es=rp at *
 generalize endF l P es=s2 at *
 generalize (gQ l).pages.length=np at *
 obtain ⟨A0,c0,rfl,-,-,-⟩:=hl.form
 obtain ⟨A1,c1,rfl,-,-,-⟩:=hm.form
 rw [List.length_map] at *
 rw [List.length_map] at *
 generalize l.length=len at *
 generalize m.length=mlen at *
 generalize hne:es.length=ne at *
 refine oQ Tryz.func10 (c:=Tryz.f10.body.getD .skip) (N:=119) ?_
 intro hbx hbad Q hQ
 refine go0 8 [] [] ?_
 refine kQ (fun H sH=>hFm _ (hl.sees sH)) ?_; rintro _ W1 S2 ⟨u17,rfl,f17⟩
 refine go1 8 [.own,.b 0 0,.b 0 0] [] ?_
 intro b3
 refine kQ (fun H sH=>hEv _ _ (f17.sees sH) (hm.sees (S2.trans sH))) ?_; rintro _ W4 S5 ⟨Aev,cev,rfl,f20⟩
 refine go0 4 [] [] ?_
 refine eV 17 2 [.ld 2 0,.v (fun gh=>.agg #[Vi P.t,Vi P.b,Vi P.c]),.pu,.f (fun gh=>.tuple #[.slice (sA (agJ 7 (gh 3))) ne (sC (agJ 7 (gh 3))),.agg (eA (gh 3) s2.E),sL (agJ 5 (gh 3)),.agg #[Vi (s2.t:Int),sL (agJ 6 (gh 3)),.bool ((s2.t:Int) == (np:Int))],Vi 0]) (fun gh hh=>RunO hh (gh 3) s2 ne rp),.pu,.pu,.pu,.pu,.pu,.pu,.al 0,.al 1,.pu,.st 0 0,.pu,.st 1 0,.pu] [(3,false),(10,true),(11,true)] (And.intro (fun _ _ _ s c=>c.sees s) (trivial)) ?_ ?_
 ·intro R hT hA hmono
  refine And.intro (t_v hT hA hmono (k:=13) (args:=(fun gh=>#[Vi 3,Vi 10,Vi 30])) (f:=fun gh=>.agg #[Vi P.t,Vi P.b,Vi P.c]) (fun gh H sH fH lent=>hPol _)) ?_
  refine And.intro (uX hT hA hmono ⟨fun _ _=>by kernel_rfl,fun _ _=>by kernel_rfl,fun _ _=>by kernel_rfl⟩ 25 (fun u=>.tuple #[.slice (sA (agJ 7 u)) ne (sC (agJ 7 u)),.agg (eA u s2.E),sL (agJ 5 u),.agg #[Vi (s2.t:Int),sL (agJ 6 u),.bool ((s2.t:Int) == (np:Int))],Vi 0]) [0,1,2] 3 35 (fun gh=>#[.agg #[sL (agJ 0 u17),sL (agJ 1 u17)],.agg #[Vi P.t,Vi P.b,Vi P.c],.slice Aev ne cev]) (fun gh H sH fH lent=>C0.facts (R:=R) (x:=gh) (i:=3) (n:=0) (F:=(fun u=>.tuple #[.slice (sA (agJ 7 u)) ne (sC (agJ 7 u)),.agg (eA u s2.E),sL (agJ 5 u),.agg #[Vi (s2.t:Int),sL (agJ 6 u),.bool ((s2.t:Int) == (np:Int))],Vi 0])) (G:=fun u hh=>RunO hh u s2 ne rp) (f:=fun gh hh=>RunO hh (gh 3) s2 ne rp) (hR _ _ _ (f17.sees (S5.trans sH)) (f20.sees sH)) (by kernel_rfl) (by kernel_rfl) (fun _ _ r=>r))) ?_
  trivial
 rintro u25 b6 b7 W8 S9 ⟨f25,-⟩
 replace f25:RunO W8 u25 s2 ne rp:=f25
 refine go0 4 [] [] ?_
 refine go0 32 [.cl 36 #[] (.bool true)] [(42,.bool ((ne:Int) != (ne:Int)),.bool false)] ?_ (ho:=(And.intro (fun H sH=>plays_any _) (trivial))) (hc:=(And.intro (congrArg Value.bool (by simp)) (trivial)))
 have f25r:=f25.rp
 obtain ⟨Arp,hArp⟩:∃ Arp,sA (agJ 7 u25)=Arp:=⟨_,rfl⟩
 rw [hArp] at f25r
 refine vQ [(6,.slice Aev ne cev),(10,Vp b7),(12,Vi 0),(44,.slice (sA (agJ 7 u25)) ne (sC (agJ 7 u25))),(45,Vi (ne:Int)),(46,Vi 0)] [.box b6 (eL u25 s2.E),.box b7 [Vi (s2.t:Int),sL (agJ 6 u25),.bool ((s2.t:Int) == (np:Int))],.box b3 [sL (agJ 0 u17),sL (agJ 1 u17)]] [] ?_
 rw [hArp]
 refine xQ [0,1,0,1,1,1,1,1,1] [.block 0,.seq [1,1,1,1,1,1,1]] (fun (k:Nat) X=>∃ (W10:Vw) (ta:Nat),X W10 [(6,.slice Aev ne cev),(10,Vp b7),(44,.slice Arp ne (sC (agJ 7 u25))),(45,Vi (ne:Int)),(46,Vi (k:Int)),(12,Vi (ta:Int))] [.box b6 (eL u25 s2.E),.box b7 [Vi (s2.t:Int),sL (agJ 6 u25),.bool ((s2.t:Int) == (np:Int))],.box b3 [sL (agJ 0 u17),sL (agJ 1 u17)]] [] /\ Sees W8 W10 /\ (k <= ne) /\ (at_ k=ta)) (fun k=>ne - k) (0) (fun X q=>⟨W8,0,q _ _ _ _ ⟨rfl,by kernel_rfl⟩,Sees.refl _,Nat.zero_le _,h00.symm⟩) ?_
 rintro k a w ⟨W10,ta,hJ,S11,hk,ha⟩; refine cV hJ ?_; clear hJ a w
 refine go0 6 [] [] ?_
 rcases (by omega:k < ne\/k=ne) with hlt | hke
 ·obtain ⟨e,hek⟩:∃ e,es[k]?=some e:=⟨_,List.getElem?_eq_getElem (by omega)⟩
  obtain ⟨x,t,hx,ht,c1,c2,c3⟩:=hstep k e hek
  rw [ha] at c1 c2 c3
  obtain ⟨kd,n,nm,v⟩:=e
  simp only at c1 c2 c3
  have hrow:(rpRows rp)[k]?=some [Vi x,Vi (t:Int)]:=by rw [List.getElem?_map,hx]; rfl
  have hrowe:(es.map Ev.cells)[k]?=some [Vi kd,Vi n,.string nm,Vi v.k,Vi v.n,.string v.s]:=by rw [List.getElem?_map,hek]; rfl
  by_cases h0:x=0
  ·skip
   by_cases h7:kd=7
   ·have h78:kd≠8:=by omega
    have:=c2 h0 h7
    refine iV (t:=decide ((k:Int) < (ne:Int))) (decide_eq_true (by omega)) ?_
    refine go0 7 [] [] ?_
    obtain ⟨b12,o13,rfl,-,c14⟩:=RS.row f25r (hrow)
    refine pQ (c14.sees S11) ?_
    refine go1 15 [.ix b12 o13 ne (sC (agJ 7 u25)) k,.f 0 0,.own,.b 0 0,.b 0 0] [(53,.bool (x == 0),.bool true)] ?_ (ho:=(And.intro (by first | omega | (simp; omega)) (trivial))) (hc:=(And.intro (congrArg Value.bool (beq_iff_eq.2 h0)) (trivial)))
    intro b15
    obtain ⟨b16,o17,rfl,-,c18⟩:=RS.row f20 (hrowe)
    refine pQ (c18.sees (S9.trans S11)) ?_
    refine go0 32 [.ix b16 o17 ne cev k,.f 0 0] [(60,.bool (kd == 7),.bool true)] ?_ (ho:=(And.intro (by first | omega | (simp; omega)) (trivial))) (hc:=(And.intro (congrArg Value.bool (beq_iff_eq.2 h7)) (trivial)))
    have c19:=RS.cell f20 (hrowe)
    refine pQ (c19.sees (S9.trans S11)) ?_
    refine go0 17 [.ix b16 o17 ne cev k,.f 0 0,.b 0 1] [(86,.bool (kd == 7),.bool true),(92,.bool (decide ((t:Int) <= (ta:Int))),.bool false)] ?_ (ho:=(And.intro (by first | omega | (simp; omega)) (trivial))) (hc:=(And.intro (congrArg Value.bool (beq_iff_eq.2 h7)) (And.intro (congrArg Value.bool (decide_eq_false (by omega))) (trivial))))
    have c20:=RS.cell f20 (hrowe)
    refine pQ (c20.sees (S9.trans S11)) ?_
    refine go0 28 [.ix b16 o17 ne cev k,.f 0 0,.b 0 1] [(103,.bool (kd == 8),.bool false),(114,Vi (IntKind.i64.wrap ((k:Int) + 1)),Vi ((k:Int) + 1))] ?_ (ho:=(And.intro (by first | omega | (simp; omega)) (trivial))) (hc:=(And.intro (congrArg Value.bool (beq_eq_false_iff_ne.2 h78)) (And.intro (jJ (by omega) (by omega)) (trivial))))
    exact gV (k + 1) (fun X q=>⟨W10,t,q _ _ _ _ ⟨rfl,by kernel_rfl⟩,S11,by omega,ht⟩) (by omega)
   ·skip
    by_cases h8:kd=8
    ·have:=c3 h0 h8
     refine iV (t:=decide ((k:Int) < (ne:Int))) (decide_eq_true (by omega)) ?_
     refine go0 7 [] [] ?_
     obtain ⟨b21,o22,rfl,-,c23⟩:=RS.row f25r (hrow)
     refine pQ (c23.sees S11) ?_
     refine go1 15 [.ix b21 o22 ne (sC (agJ 7 u25)) k,.f 0 0,.own,.b 0 0,.b 0 0] [(53,.bool (x == 0),.bool true)] ?_ (ho:=(And.intro (by first | omega | (simp; omega)) (trivial))) (hc:=(And.intro (congrArg Value.bool (beq_iff_eq.2 h0)) (trivial)))
     intro b24
     obtain ⟨b25,o26,rfl,-,c27⟩:=RS.row f20 (hrowe)
     refine pQ (c27.sees (S9.trans S11)) ?_
     refine go0 7 [.ix b25 o26 ne cev k,.f 0 0] [(60,.bool (kd == 7),.bool false)] ?_ (ho:=(And.intro (by first | omega | (simp; omega)) (trivial))) (hc:=(And.intro (congrArg Value.bool (beq_eq_false_iff_ne.2 h7)) (trivial)))
     have c28:=RS.cell f20 (hrowe)
     refine pQ (c28.sees (S9.trans S11)) ?_
     refine go0 25 [.ix b25 o26 ne cev k,.f 0 0] [(67,.bool (kd == 8),.bool true)] ?_ (ho:=(And.intro (by first | omega | (simp; omega)) (trivial))) (hc:=(And.intro (congrArg Value.bool (beq_iff_eq.2 h8)) (trivial)))
     have c29:=RS.cell f20 (hrowe)
     refine pQ (c29.sees (S9.trans S11)) ?_
     refine go0 17 [.ix b25 o26 ne cev k,.f 0 0] [(86,.bool (kd == 7),.bool false)] ?_ (ho:=(And.intro (by first | omega | (simp; omega)) (trivial))) (hc:=(And.intro (congrArg Value.bool (beq_eq_false_iff_ne.2 h7)) (trivial)))
     have c30:=RS.cell f20 (hrowe)
     refine pQ (c30.sees (S9.trans S11)) ?_
     refine go0 28 [.ix b25 o26 ne cev k,.f 0 0,.b 0 1,.b 0 1] [(103,.bool (kd == 8),.bool true),(109,.bool (decide ((t:Int) ≥ (ta:Int))),.bool false),(114,Vi (IntKind.i64.wrap ((k:Int) + 1)),Vi ((k:Int) + 1))] ?_ (ho:=(And.intro (by first | omega | (simp; omega)) (trivial))) (hc:=(And.intro (congrArg Value.bool (beq_iff_eq.2 h8)) (And.intro (congrArg Value.bool (decide_eq_false (by omega))) (And.intro (jJ (by omega) (by omega)) (trivial)))))
     exact gV (k + 1) (fun X q=>⟨W10,t,q _ _ _ _ ⟨rfl,by kernel_rfl⟩,S11,by omega,ht⟩) (by omega)
    ·skip
     have:=c1 (fun q=>q.2.elim h7 h8)
     refine iV (t:=decide ((k:Int) < (ne:Int))) (decide_eq_true (by omega)) ?_
     refine go0 7 [] [] ?_
     obtain ⟨b31,o32,rfl,-,c33⟩:=RS.row f25r (hrow)
     refine pQ (c33.sees S11) ?_
     refine go1 15 [.ix b31 o32 ne (sC (agJ 7 u25)) k,.f 0 0,.own,.b 0 0,.b 0 0] [(53,.bool (x == 0),.bool true)] ?_ (ho:=(And.intro (by first | omega | (simp; omega)) (trivial))) (hc:=(And.intro (congrArg Value.bool (beq_iff_eq.2 h0)) (trivial)))
     intro b34
     obtain ⟨b35,o36,rfl,-,c37⟩:=RS.row f20 (hrowe)
     refine pQ (c37.sees (S9.trans S11)) ?_
     refine go0 7 [.ix b35 o36 ne cev k,.f 0 0] [(60,.bool (kd == 7),.bool false)] ?_ (ho:=(And.intro (by first | omega | (simp; omega)) (trivial))) (hc:=(And.intro (congrArg Value.bool (beq_eq_false_iff_ne.2 h7)) (trivial)))
     have c38:=RS.cell f20 (hrowe)
     refine pQ (c38.sees (S9.trans S11)) ?_
     refine go0 70 [.ix b35 o36 ne cev k,.f 0 0,.b 0 1,.b 0 1] [(67,.bool (kd == 8),.bool false),(76,.bool ((t:Int) != (ta:Int)),.bool false),(114,Vi (IntKind.i64.wrap ((k:Int) + 1)),Vi ((k:Int) + 1))] ?_ (ho:=(And.intro (by first | omega | (simp; omega)) (trivial))) (hc:=(And.intro (congrArg Value.bool (beq_eq_false_iff_ne.2 h8)) (And.intro (congrArg Value.bool (bne_eq_false_iff_eq.2 (by omega))) (And.intro (jJ (by omega) (by omega)) (trivial)))))
     exact gV (k + 1) (fun X q=>⟨W10,t,q _ _ _ _ ⟨rfl,by kernel_rfl⟩,S11,by omega,ht⟩) (by omega)
  ·skip
   have:=c1 (fun q=>h0 q.1)
   refine iV (t:=decide ((k:Int) < (ne:Int))) (decide_eq_true (by omega)) ?_
   refine go0 7 [] [] ?_
   obtain ⟨b39,o40,rfl,-,c41⟩:=RS.row f25r (hrow)
   refine pQ (c41.sees S11) ?_
   refine go1 92 [.ix b39 o40 ne (sC (agJ 7 u25)) k,.f 0 0,.own,.b 0 0,.b 0 0,.b 0 1,.b 0 1] [(53,.bool (x == 0),.bool false),(76,.bool ((t:Int) != (ta:Int)),.bool false),(114,Vi (IntKind.i64.wrap ((k:Int) + 1)),Vi ((k:Int) + 1))] ?_ (ho:=(And.intro (by first | omega | (simp; omega)) (trivial))) (hc:=(And.intro (congrArg Value.bool (beq_eq_false_iff_ne.2 h0)) (And.intro (congrArg Value.bool (bne_eq_false_iff_eq.2 (by omega))) (And.intro (jJ (by omega) (by omega)) (trivial)))))
   intro b42
   exact gV (k + 1) (fun X q=>⟨W10,t,q _ _ _ _ ⟨rfl,by kernel_rfl⟩,S11,by omega,ht⟩) (by omega)
 ·skip
  rw [<- hke,ha] at hend
  refine qQ (t:=decide ((k:Int) < (ne:Int))) (decide_eq_false (by omega)) ?_
  refine go0 2 [] [] ?_
  refine wQ ?_
  refine go0 12 [.b 1 0] [(118,.bool ((s2.t:Int) == (ta:Int)),.bool true)] ?_ (hc:=(And.intro (congrArg Value.bool (beq_iff_eq.2 (by omega))) (trivial)))
  refine hQ.to [.bool true] (fun H sH=>?_)
  exact rfl
theorem playPages_walk (v:Value) (l:List RawD) (v':Value) (m:List RawD) (w:World) (h:RawsOf w v l) (h':RawsOf w v' m) :
  Calls Tryz.prog 10 #[v,v'] w fun e w'=>e=.returned (.bool true) /\ Below w.heap.size w w' :=
 C0.law (playPages_c l m v v' ⟨w,[]⟩ h.rs h'.rs h.2.1 h'.2.1 h.2.2 h'.2.2)
namespace playPagesLaw
open Go.ChangeShapes Go.WideShapes Go.ChangeAt Go.RowKit
open Go.ChangeMaps (open_string shut_string)
set_option linter.unusedVariables false
theorem lifted (os:Os) (started:os.Started) (H:Type) (enc:TypeId × Value -> H) :
  ReturnsInHanded {} Tryz.checked os 10 .any (Rows.playPagesSpec.pre6 enc Tryz.prog Tryz.f10 Rows.playPagesRow.domain false) (Rows.playPagesSpec.post enc Tryz.prog Tryz.f10 false true false false):=by
 refine returnsInHanded_of_change_sized (C:=Tryz.checked) ownNone started (by kernel_rfl) Tryz.func10
  (ChangeSpec.witness6 (enc:=enc) (C:=Tryz.checked) false ⟨#[],#[.slice none 0 0,.slice none 0 0],[]⟩ 8 (by kernel_rfl) (by kernel_rfl) (by kernel_rfl) (by kernel_rfl)) ?_
 intro W base args ds gs before hval0 hW hcnd hsz0 _
 have hval:∀ (j:Nat) t v,Tryz.f10.params[j]?=some t -> args[j]?=some v -> Value.okWide Tryz.prog W .any base t v:=hval0
 have hsz:(DataW.weightsEach Tryz.prog (Tryz.f10.params.toList++Rows.playPagesSpec.plain.varTypes Tryz.prog) (ds++gs)).all (· <= reachBytes)=true:=hsz0
 have hW':=hW
 obtain ⟨p,q,hA0,hV,rfl,hfz,hnd⟩:=hW
 have hA:DataW.TrodAll enc Tryz.prog W 0 (fun _=>true) true Tryz.f10.params.toList args.toList ds p:=hA0
 rw [Tryz.params10] at hA hval hsz
 obtain ⟨v0,vs0,d0,ds0,p0,q0,hargs,rfl,rfl,h0,r0⟩:=trodAll_cons hA
 obtain ⟨v1,vs1,d1,ds1,p1,q1,rfl,rfl,rfl,h1,r1⟩:=trodAll_cons r0
 obtain ⟨rfl,rfl,rfl⟩:=trodAll_nil r1
 obtain rfl:args=#[v0,v1]:=by cases args; simp_all
 obtain ⟨rfl,rfl⟩:=trodVars_none hV
 have k0:=h0
 have lt0:∀ x∈p0,x.block < W.heap.size:=by obtain ⟨m,hm⟩:=k0; exact DataW.trod_lt m _ _ _ hm
 obtain ⟨a0,w0⟩:=open_rows (hval 0 22 v0 rfl rfl) h0 (fun es ss hd=>sized_slice hsz (j:=0) (t:=22) (elems:=es) (spare:=ss) rfl (by rw [hd]; rfl) Tryz.underlying22)
 have k1:=h1
 have lt1:∀ x∈p1,x.block < W.heap.size:=by obtain ⟨m,hm⟩:=k1; exact DataW.trod_lt m _ _ _ hm
 obtain ⟨a1,w1⟩:=open_rows (hval 1 22 v1 rfl rfl) h1 (fun es ss hd=>sized_slice hsz (j:=1) (t:=22) (elems:=es) (spare:=ss) rfl (by rw [hd]; rfl) Tryz.underlying22)
 clear hA0 hval0 hsz0
 refine (playPages_walk v0 a0 v1 a1 W w0 w1).mono fun e W' ⟨he,bel⟩=>?_
 subst he
 exact ⟨_,rfl,_,_,_,[],_,[],hW',trodAll_mk1 (shut_bool Tryz.underlying4 _),(trodAll_cons_mk (Below.trod laidOutTrue (by kernel_rfl) (of_decide_eq_true (by kernel_rfl)) k0 bel lt0) (trodAll_cons_mk (Below.trod laidOutTrue (by kernel_rfl) (of_decide_eq_true (by kernel_rfl)) k1 bel lt1) trodAll_mk0)),rfl,bel.frame _,fun h=>by cases h⟩
theorem over:Rows.playPagesRow.holds Tryz.pinned (OpenSpec.ofChange Rows.playPagesSpec) :=
 OpenClaim.holds_of_wide 10 Tryz.f10 rfl rfl rfl rfl rfl rfl rfl ⟨rfl,rfl,rfl,rfl,rfl⟩ rfl rfl rfl rfl rfl (by kernel_rfl) Tryz.func10 (by kernel_rfl)
  (of_decide_eq_true (by kernel_rfl)) (by unfold Func.isWrapper; first | (rw [if_pos (by decide +kernel)]; kernel_rfl) | (rw [if_neg (by decide +kernel)]; exact ⟨rfl,rfl⟩))
  (fun os started H enc _=>lifted os started H enc)
end playPagesLaw
theorem playPages_holds:Rows.PlayPagesSaid:=playPagesLaw.over
#print axioms playPages_holds
end Go.Proofs.YtmoahpojchndiaaGreat
