/-
  A formula as it is printed, in plain Lean: its tokens, and that they are read as the formula.
-/
import Derived.Test.YthplkompdehjlaaGreatDoorZR19
import Derived.Test.YthplkompdehjlaaGreatDoorZR22
import Derived.Test.YthplkompdehjlaaGreatDoorZR24
import Derived.Lib.SplitLaws
import Derived.Lib.IndexLaws
import Derived.Lib.IndexMore
import Derived.Lib.CountLaws
import Derived.Lib.Join
namespace Go.Proofs.YthplkompdehjlaaGreatDoor
open Go.RowKit
set_option linter.unusedVariables false
def cK:List (List UInt8)→List UInt8
 | []=>[]
 | [p]=>p
 | p :: q :: r=>p++44 :: 32 :: cK (q :: r)
def uX (k n:Int) (s:ByteArray):List UInt8:=(showV ⟨k,n,s⟩).data.toList
def bdB (op k n:Int) (s nm:ByteArray) (ps:List (List UInt8)):List UInt8 :=
 if op=1 then uX k n s else if op=2 then nm.data.toList else if lvO op=7 then sgL op++40 :: (cK ps++[41])
 else if op=3 then 45 :: ps.headD [] else if op=4 then 110 :: 111 :: 116 :: 32 :: ps.headD [] else ps.headD []++32 :: (sgL op++32 :: ps.tail.headD [])
def brB (b:Prop) [Decidable b] (l:List UInt8):List UInt8:=if b then 40 :: (l++[41]) else l
mutual
def prt:Ex→Nat→List UInt8
 | .mk op k n s nm args,l=>brB (lvO op < l) (bdB op k n s nm (prtL args (mV op)))
def prtL:List Ex→List Nat→List (List UInt8)
 | [],_=>[]
 | x :: r,ls=>prt x (ls.headD 1) :: prtL r ls.tail
end
theorem prtL_nil:∀ l:List Ex,prtL l []=l.map (prt · 1)
 | []=>by rw [prtL]; rfl
 | x :: l=>by rw [prtL]; show prt x 1 :: prtL l []=_; rw [prtL_nil l]; rfl
theorem tkL_nil (sh:Int→Int→ByteArray→List UInt8):∀ l:List Ex,tkL sh l []=l.map (tkE sh · 1)
 | []=>by rw [tkL]; rfl
 | x :: l=>by rw [tkL]; show tkE sh x 1 :: tkL sh l []=_; rw [tkL_nil sh l]; rfl
def LexTo (C:List UInt8→Prop) (l:List UInt8) (ts:List Tok):Prop:=∀ r,C r→∀ f a acc,(l++r).length < f→∃ us f',us.map (·.t)=ts∧r.length < f'∧lexGo f (l++r) a acc=lexGo f' r (a + l.length) (acc++us)
def Any1 (_:List UInt8):Prop:=True
def NoW (r:List UInt8):Prop:=∀ c,r.head?=some c→iV c=false
theorem NoW.sep {c:UInt8} (h:c=32∨c=40∨c=41∨c=44) (r:List UInt8):NoW (c :: r):=by
 intro d hd
 simp only [List.head?_cons,Option.some.injEq] at hd
 subst hd
 rcases h with rfl | rfl | rfl | rfl <;> decide
theorem LexTo.app {C C':List UInt8→Prop} {l l':List UInt8} {ts ts':List Tok} (h:LexTo C l ts) (h':LexTo C' l' ts') (hc:∀ r,C' r→C (l'++r)):LexTo C' (l++l') (ts++ts'):=by
 intro r hr f a acc hf
 rw [List.append_assoc] at hf ⊢
 obtain ⟨us,f1,e1,hf1,h1⟩:=h _ (hc r hr) f a acc hf
 obtain ⟨vs,f2,e2,hf2,h2⟩:=h' r hr f1 (a + l.length) (acc++us) hf1
 exact ⟨us++vs,f2,by rw [List.map_append,e1,e2],hf2,by rw [h1,h2,List.length_append,List.append_assoc,Nat.add_assoc]⟩
theorem LexTo.mono {C C':List UInt8→Prop} {l:List UInt8} {ts:List Tok} (h:LexTo C l ts) (hc:∀ r,C' r→C r):LexTo C' l ts:=fun r hr=>h r (hc r hr)
theorem LexTo.nil:LexTo Any1 [] []:=fun r _ f a acc hf=>⟨[],f,rfl,hf,by simp⟩
theorem LexTo.blank:LexTo Any1 [32] []:=by
 intro r _ f a acc hf
 obtain ⟨g,rfl⟩:∃ g,f=g + 1:=⟨f - 1,by simp at hf; omega⟩
 refine ⟨[],g,rfl,by simp at hf; omega,?_⟩
 show lexGo (g + 1) (32 :: r) a acc=_
 rw [lexGo,if_pos rfl,List.append_nil]; rfl
theorem LexTo.one {C:List UInt8→Prop} {t:Tok} {c:UInt8} {q:List UInt8} (hs:t.s=c :: q) (h0:c≠32) (h:∀ r,C r→aW ((c :: q)++r)=.tok t):LexTo C (c :: q) [t]:=by
 intro r hr f a acc hf
 obtain ⟨g,rfl⟩:∃ g,f=g + 1:=⟨f - 1,by omega⟩
 have ho:=h r hr
 refine ⟨[⟨t,a⟩],g,rfl,by simp at hf; omega,?_⟩
 rw [List.cons_append] at ho ⊢
 rw [lexGo,if_neg h0,ho]
 show lexGo g (List.drop t.s.length _) (a + t.s.length) _=_
 rw [hs,← List.cons_append,List.drop_left]
theorem span_app (p:UInt8→Bool):∀ (w r:List UInt8),xX p w=w.length→(∀ c,r.head?=some c→p c=false)→xX p (w++r)=w.length
 | [],r,_,hr=>by
  cases r with
  | nil=>rfl
  | cons c r=>rw [List.nil_append,yX,hr c rfl]; rfl
 | x :: w,r,hw,hr=>by
  rw [yX] at hw
  rw [List.cons_append,yX]
  cases hp:p x with
  | true=>rw [hp] at hw; simp only [if_true,List.length_cons] at hw ⊢; rw [span_app p w r (by omega) hr]
  | false=>rw [hp] at hw; simp at hw
theorem let_dig {c:UInt8} (h:gV c=true):fV c=false:=by
 unfold gV at h; unfold fV
 simp at h ⊢
 intro _; omega
theorem word_tok {c:UInt8} {q:List UInt8} (hl:gV c=true) (hs:xX iV (c :: q)=(c :: q).length) (hn:(c :: q).length≤10) (r:List UInt8) (hr:NoW r):aW ((c :: q)++r)=.tok (tW (c :: q)):=by
 have hsp:=span_app iV (c :: q) r hs hr
 rw [List.cons_append] at hsp ⊢
 rcases oneF_split c (q++r) with ⟨d,-⟩ | ⟨-,-,k⟩ | ⟨d,-⟩ | ⟨-,d,-,-⟩
 ·rw [let_dig hl] at d; cases d
 ·rw [k,hsp,if_neg (by omega),← List.cons_append,List.take_left]; rfl
 ·subst d; exact absurd hl (by decide)
 ·rw [hl] at d; cases d
theorem let_ne {c:UInt8} (h:gV c=true):c≠32:=by rintro rfl; revert h; decide
theorem LexTo.word {c:UInt8} {q:List UInt8} (hl:gV c=true) (hs:xX iV (c :: q)=(c :: q).length) (hn:(c :: q).length≤10):LexTo NoW (c :: q) [tW (c :: q)] :=
 LexTo.one rfl (let_ne hl) (word_tok hl hs hn)
theorem numV_snoc (d:Nat) (hd:d < 10):∀ (l:List UInt8) (acc v:Int),numV l acc=some v→10 * v + d≤1099511627776→numV (l++[UInt8.ofNat (48 + d)]) acc=some (10 * v + d)
 | [],acc,v,h,hb=>by
  simp only [numV,Option.some.injEq] at h
  subst h
  have e:=dig_toNat d hd
  simp only [List.nil_append,numV]
  rw [e,if_neg (by omega)]
  congr 1; omega
 | c :: r,acc,v,h,hb=>by
  rw [List.cons_append]
  simp only [numV] at h ⊢
  split at h
  ·cases h
  ·rename_i h1
   rw [if_neg h1]
   exact numV_snoc d hd r _ v h hb
theorem dig_isDig (d:Nat) (hd:d < 10):fV (UInt8.ofNat (48 + d))=true:=by
 unfold fV; rw [dig_toNat d hd]; simp; omega
theorem span_all_app (p:UInt8→Bool) (l m:List UInt8) (h1:xX p l=l.length) (h2:xX p m=m.length):xX p (l++m)=(l++m).length:=by
 induction l with
 | nil=>simpa using h2
 | cons x l ih =>
  rw [yX] at h1
  rw [List.cons_append,yX]
  cases hp:p x with
  | true=>rw [hp] at h1; simp only [if_true,List.length_cons] at h1 ⊢; rw [ih (by omega)]
  | false=>rw [hp] at h1; simp at h1
theorem dec_num (u:Nat):u≤1099511627776→numV (Lib.decDigits u) 0=some (u:Int)∧xX fV (Lib.decDigits u)=(Lib.decDigits u).length∧(1 < (Lib.decDigits u).length→(Lib.decDigits u).head?≠some 48)∧(u≠0→(Lib.decDigits u).head?≠some 48):=by
 induction u using Nat.strongRecOn with
 | _ u ih =>
  intro hu
  by_cases h:u < 10
  ·rw [Lib.decDigits,dif_pos h]
   have e:=dig_toNat u h
   refine ⟨?_,?_,by simp,fun h0 hh=>?_⟩
   ·simp only [numV]; rw [e,if_neg (by omega)]; congr 1; omega
   ·rw [yX,dig_isDig u h]; rfl
   ·simp only [List.head?_cons,Option.some.injEq] at hh
    rw [hh] at e
    have:(48:UInt8).toNat=48:=rfl
    omega
  ·obtain ⟨a,b,-,d⟩:=ih (u / 10) (by omega) (by omega)
   have hd:=d (by omega)
   rw [Lib.decDigits,dif_neg h]
   obtain ⟨c,r,e,-,-⟩:=dec_head (u / 10)
   have hh:(Lib.decDigits (u / 10)++[UInt8.ofNat (48 + u % 10)]).head?≠some 48:=by
    rw [e] at hd ⊢; exact hd
   refine ⟨?_,span_all_app _ _ _ b (by rw [yX,dig_isDig _ (Nat.mod_lt _ (by omega))]; rfl),fun _=>hh,fun _=>hh⟩
   rw [numV_snoc (u % 10) (Nat.mod_lt _ (by omega)) _ _ _ a (by omega)]
   congr 1; omega
theorem LexTo.num (u:Nat) (hu:u≤1099511627776):LexTo NoW (Lib.decDigits u) [⟨1,Lib.decDigits u,1,u,[]⟩]:=by
 obtain ⟨a,b,d,-⟩:=dec_num u hu
 obtain ⟨c,r,e,h1,h2⟩:=dec_head u
 have hdg:fV c=true:=by unfold fV; simp; omega
 rw [e] at a b d ⊢
 refine LexTo.one rfl (by rintro rfl; revert h1; decide) fun q hq=>?_
 have hsp:=span_app fV (c :: r) q b (fun x hx=>by
  have:=hq x hx
  unfold iV at this
  simp at this; exact this.2)
 have ho:aW ((c :: r)++q)=wV ((c :: r)++q):=by rw [List.cons_append]; simp [aW,hdg]
 rw [ho]
 have ht:((c :: r)++q).take (xX fV ((c :: r)++q))=c :: r:=by rw [hsp,List.take_left]
 unfold wV
 rw [if_neg (by rw [hsp]; intro ⟨x,y⟩; exact d x (by simpa using y)),ht,a]
theorem quote_esc:∀ (s:List UInt8) (i:Nat) (acc r:List UInt8),(∀ c∈s,32≤c.toNat∧c.toNat≤126)→(acc++s).length≤40→eX (jK s++34 :: r) i acc=.ok (i + (jK s).length + 1,acc++s)
 | [],i,acc,r,_,hl=>by
  simp only [List.append_nil] at hl
  show eX (34 :: r) i acc=_
  cases r with
  | nil=>rw [eX,if_pos rfl,if_neg (by omega)]; simp [jK]
  | cons d r=>rw [eX,if_pos rfl,if_neg (by omega)]; simp [jK]
 | c :: s,i,acc,r,hc,hl=>by
  have ih:=fun i=>quote_esc s i (acc++[c]) r (fun x hx=>hc x (List.mem_cons_of_mem _ hx)) (by simpa using hl)
  have e:jK (c :: s)=escB c++jK s:=rfl
  obtain ⟨c1,c2⟩:=hc c (List.mem_cons_self ..)
  rw [e]
  unfold escB
  split
  ·rename_i h
   show eX (92 :: c :: (jK s++34 :: r)) i acc=_
   rw [eX,if_neg (by decide),if_pos rfl,if_pos h,ih]
   simp only [List.append_assoc,List.cons_append,List.nil_append,List.length_cons]
   congr 2; omega
  ·rename_i h
   obtain ⟨d,q,hd⟩:∃ d q,jK s++34 :: r=d :: q:=by
    cases hx:jK s with
    | nil=>exact ⟨34,r,rfl⟩
    | cons a b=>exact ⟨a,b++34 :: r,rfl⟩
   show eX (c :: (jK s++34 :: r)) i acc=_
   rw [hd,eX,if_neg (fun q=>h (.inl q)),if_neg (fun q=>h (.inr q)),if_neg (by omega),← hd,ih]
   simp only [List.append_assoc,List.cons_append,List.nil_append,List.length_cons]
   congr 2; omega
theorem LexTo.text (s:List UInt8) (hs:∀ c∈s,32≤c.toNat∧c.toNat≤126) (hl:s.length≤40):LexTo Any1 (34 :: (jK s++[34])) [⟨3,34 :: (jK s++[34]),3,0,s⟩]:=by
 refine LexTo.one rfl (by decide) fun r _=>?_
 have e:(34 :: (jK s++[34]))++r=34 :: (jK s++34 :: r):=by simp
 have hq:=quote_esc s 1 [] r hs (by simpa using hl)
 rw [e]
 have ho:aW (34 :: (jK s++34 :: r))=dX (34 :: (jK s++34 :: r)):=by simp [aW,fV,gV]
 rw [ho]
 unfold dX
 rw [List.tail_cons,hq]
 show OneR.tok ⟨3,List.take _ _,3,0,[]++s⟩=_
 rw [show 1 + (jK s).length + 1=(34 :: (jK s++[34])).length by simp; omega,← e,List.take_left]
 rfl
theorem LexTo.sg {c:UInt8} (h:c=40∨c=41∨c=44∨c=45):LexTo Any1 [c] [tS [c]]:=by
 rcases h with rfl | rfl | rfl | rfl
 all_goals exact LexTo.one rfl (by decide) fun r _=>by simp [aW,fV,gV,signF,signs,List.find?,List.isPrefixOf,tS]
def Sp (r:List UInt8):Prop:=r.head?=some 32
theorem LexTo.op {op:Int} (h1:5≤op) (h2:op≤16):LexTo Sp (sgL op) [tkOp op]:=by
 have hsp:∀ r,Sp r→∃ q,r=32 :: q:=fun r h=>by
  cases r with
  | nil=>cases h
  | cons c q=>unfold Sp at h; simp at h; exact ⟨q,by rw [h]⟩
 obtain rfl | rfl | rfl | rfl | rfl | rfl | rfl | rfl | rfl | rfl | rfl | rfl:op=5∨op=6∨op=7∨op=8∨op=9∨op=10∨op=11∨op=12∨op=13∨op=14∨op=15∨op=16:=by omega
 all_goals first
  | exact (LexTo.word (c:=97) (q:=[110,100]) (by decide) (by decide) (by decide)).mono fun r hr=>by obtain ⟨q,rfl⟩:=hsp r hr; exact NoW.sep (.inl rfl) _
  | exact (LexTo.word (c:=111) (q:=[114]) (by decide) (by decide) (by decide)).mono fun r hr=>by obtain ⟨q,rfl⟩:=hsp r hr; exact NoW.sep (.inl rfl) _
  | exact LexTo.one (c:=_) (q:=_) rfl (by decide) fun r hr=>by obtain ⟨q,rfl⟩:=hsp r hr; simp [sgL,aW,fV,gV,signF,signs,List.find?,List.isPrefixOf,tkOp,tS]
theorem lex_comma {ps:List (List UInt8)} {ts:List (List Tok)} (hl:ps.length=ts.length) (h:∀ (j:Nat) p t,ps[j]?=some p→ts[j]?=some t→LexTo NoW p t):LexTo NoW (cK ps) (dK ts):=by
 induction ps generalizing ts with
 | nil =>
  obtain rfl:ts=[]:=by cases ts with | nil=>rfl | cons a b=>simp at hl
  exact LexTo.nil.mono fun _ _=>trivial
 | cons p ps ih =>
  obtain ⟨t,ts,rfl⟩:∃ t r,ts=t :: r:=by cases ts with | nil=>simp at hl | cons a b=>exact ⟨a,b,rfl⟩
  have h0:=h 0 p t rfl rfl
  have ih:=ih (ts:=ts) (by simpa using hl) (fun j p t a b=>h (j + 1) p t (by simpa using a) (by simpa using b))
  cases ps with
  | nil =>
   obtain rfl:ts=[]:=by cases ts with | nil=>rfl | cons a b=>simp at hl
   exact h0
  | cons q r =>
   obtain ⟨t2,ts,rfl⟩:∃ t r,ts=t :: r:=by cases ts with | nil=>simp at hl | cons a b=>exact ⟨a,b,rfl⟩
   have h2:LexTo NoW ([44]++([32]++cK (q :: r))) ([tS [44]]++([]++dK (t2 :: ts))):=(LexTo.sg (.inr (.inr (.inl rfl)))).app (LexTo.blank.app ih fun _ _=>trivial) fun _ _=>trivial
   exact h0.app h2 fun r _=>NoW.sep (.inr (.inr (.inr rfl))) _
theorem LexTo.eq {C:List UInt8→Prop} {l l':List UInt8} {ts ts':List Tok} (h:LexTo C l ts) (h1:l=l') (h2:ts=ts'):LexTo C l' ts':=by subst h1 h2; exact h
theorem lex_br {b:Prop} [Decidable b] {l:List UInt8} {ts:List Tok} (h:LexTo NoW l ts):LexTo NoW (brB b l) (brT b ts):=by
 unfold brB brT
 split
 ·have h2:LexTo Any1 ([40]++(l++[41])) ([tS [40]]++(ts++[tS [41]])):=(LexTo.sg (.inl rfl)).app (h.app (LexTo.sg (.inr (.inl rfl))) fun r _=>NoW.sep (.inr (.inr (.inl rfl))) _) fun _ _=>trivial
  exact h2.mono fun _ _=>trivial
 ·exact h
theorem con_lex {k n:Int} {s:ByteArray} (hk:KnownV k n s) (hn:k=1→0≤n):LexTo NoW (uX k n s) [conT k n (uX k n s) s.data.toList]:=by
 rcases hk with ⟨rfl,h,rfl⟩ | ⟨rfl,h,rfl⟩ | ⟨rfl,rfl,h1,h2⟩
 ·obtain ⟨u,rfl⟩:∃ u:Nat,n=(u:Int):=⟨n.toNat,by have:=hn rfl; omega⟩
  have e:uX 1 (u:Int) ⟨#[]⟩=Lib.decDigits u:=by show (Lib.itoa (u:Int)).toArray.toList=_; rw [Lib.itoa_nonneg]
  rw [e]
  exact LexTo.num u (by have:=h.2; omega)
 ·rcases h with rfl | rfl
  ·exact LexTo.word (c:=102) (q:=[97,108,115,101]) (by decide) (by decide) (by decide)
  ·exact LexTo.word (c:=116) (q:=[114,117,101]) (by decide) (by decide) (by decide)
 ·exact (LexTo.text s.data.toList (fun c hc=>by
   obtain ⟨i,hi,rfl⟩:=List.mem_iff_getElem.1 hc
   have hi':i < s.size:=by rw [← toList_size]; exact hi
   exact h2 i hi') (by rw [toList_size]; exact h1)).mono fun _ _=>trivial
theorem name_lex {s:List UInt8} (h:oJ s):LexTo NoW s [tW s]:=by
 obtain ⟨h1,h2,⟨c,hc,hl⟩,h3,-⟩:=h
 cases s with
 | nil=>simp at h1
 | cons d q =>
  simp at hc; subst hc
  exact LexTo.word hl h3 h2
theorem get_zip {α β γ:Type} {f:α→β} {g:α→γ} {l:List α} {j:Nat} {p:β} {t:γ} (h1:(l.map f)[j]?=some p) (h2:(l.map g)[j]?=some t):∃ x,l[j]?=some x∧p=f x∧t=g x:=by
 rw [List.getElem?_map] at h1 h2
 cases h:l[j]? with
 | none=>rw [h] at h1; cases h1
 | some x=>rw [h] at h1 h2; cases h1; cases h2; exact ⟨x,rfl,rfl,rfl⟩
theorem lv7 {op:Int} (h1:3≤op) (h2:op≤18):(lvO op=7∧(op=17∨op=18))∨(lvO op=6∧(op=3∨op=4))∨(1≤lvO op∧lvO op≤5∧5≤op∧op≤16):=by
 obtain rfl | rfl | rfl | rfl | rfl | rfl | rfl | rfl | rfl | rfl | rfl | rfl | rfl | rfl | rfl | rfl:op=3∨op=4∨op=5∨op=6∨op=7∨op=8∨op=9∨op=10∨op=11∨op=12∨op=13∨op=14∨op=15∨op=16∨op=17∨op=18:=by omega
 all_goals decide
theorem lex_any:∀ (m:Nat) (x:Ex) (l:Nat),(szE x).1≤m→WfE x→LexTo NoW (prt x l) (tkE uX x l)
 | 0,x,l,hm,_=>by have:=gY x; omega
 | m + 1,x,l,hm,hw=>by
  have IH:=lex_any m
  have hse:=fY x
  have hwt:=hw.top
  have hwl:=hw.list
  rw [hse] at hm
  obtain ⟨op,k,n,s,nm,args⟩:=x
  rw [prt,tkE]
  refine lex_br ?_
  simp only [Ex.args,TopOk,Ex.op,Ex.k,Ex.n,Ex.s,Ex.nm] at hm hwt hwl
  have hIH:∀ y∈args,∀ l,LexTo NoW (prt y l) (tkE uX y l):=fun y hy l=>IH y l (by have:=(iY hy).1; omega) (hwl.get hy)
  clear IH hw
  unfold bdB bdT
  rcases hwt with ⟨h1,h2,h3,-⟩ | ⟨h1,h2,-⟩ | ⟨h1,h2,-,-,-,-,h3⟩
  ·rw [if_pos h1,if_pos h1]; exact con_lex h2 h3
  ·rw [if_neg (by omega),if_pos h1,if_neg (by omega),if_pos h1]; exact name_lex h2
  ·rw [if_neg (show ¬ op=1 by omega),if_neg (show ¬ op=2 by omega),if_neg (show ¬ op=1 by omega),if_neg (show ¬ op=2 by omega)]
   by_cases h7:lvO op=7
   ·have h17:op=17∨op=18:=by rcases lv7 h1 h2 with ⟨-,q⟩ | ⟨q,-⟩ | ⟨-,q,-⟩ <;> omega
    have hls:mV op=[]:=by rcases h17 with rfl | rfl <;> decide
    rw [if_pos h7,if_pos h7]
    rw [hls,prtL_nil,tkL_nil]
    have hc:=lex_comma (ps:=args.map (prt · 1)) (ts:=args.map (tkE uX · 1)) (by simp) (fun j p t a b=>by
     obtain ⟨x,hx,rfl,rfl⟩:=get_zip a b
     exact hIH x (List.mem_of_getElem? hx) 1)
    have hb:LexTo Any1 ([40]++(cK (args.map (prt · 1))++[41])) ([tS [40]]++(dK (args.map (tkE uX · 1))++[tS [41]])):=(LexTo.sg (.inl rfl)).app (hc.app (LexTo.sg (.inr (.inl rfl))) fun r _=>NoW.sep (.inr (.inr (.inl rfl))) _) fun _ _=>trivial
    have hw2:LexTo NoW (sgL op) [tkOp op]:=by
     rcases h17 with rfl | rfl
     ·exact LexTo.word (c:=105) (q:=[102]) (by decide) (by decide) (by decide)
     ·exact LexTo.word (c:=108) (q:=[101,110]) (by decide) (by decide) (by decide)
    exact (hw2.app hb fun r _=>NoW.sep (.inr (.inl rfl)) _).mono fun _ _=>trivial
   ·rw [if_neg h7,if_neg h7]
    by_cases h34:op=3∨op=4
    ·have har:args.length=1:=by rw [h3]; unfold arity; rw [if_neg (by omega),if_pos (by omega)]
     obtain ⟨y,rfl⟩:∃ y,args=[y]:=by
      cases args with
      | nil=>simp at har
      | cons a b=>cases b with | nil=>exact ⟨a,rfl⟩ | cons c d=>simp at har
     have hy:=hIH y (by simp)
     rw [if_pos h34]
     unfold mV
     rw [if_pos h34]
     rcases h34 with rfl | rfl
     ·exact ((LexTo.sg (c:=45) (.inr (.inr (.inr rfl)))).app (hy 6) fun _ _=>trivial).eq (by simp [prtL]) (by simp [tkL,tkOp,sgL])
     ·have hnot:LexTo NoW [110,111,116] [tW [110,111,116]]:=LexTo.word (by decide) (by decide) (by decide)
      exact (hnot.app (LexTo.blank.app (hy 6) fun _ _=>trivial) fun r _=>NoW.sep (.inl rfl) _).eq (by simp [prtL]) (by simp [tkL,tkOp,sgL])
    ·have hle:5≤op∧op≤16:=by
      refine ⟨by omega,?_⟩
      rcases (by omega:op≤16∨op=17∨op=18) with q | rfl | rfl
      ·exact q
      ·exact absurd rfl h7
      ·exact absurd rfl h7
     have har:args.length=2:=by rw [h3]; unfold arity; rw [if_neg (by omega),if_neg (by omega),if_neg (by omega)]
     obtain ⟨y,z,rfl⟩:∃ y z,args=[y,z]:=by
      cases args with
      | nil=>simp at har
      | cons a b=>cases b with | nil=>simp at har | cons c d=>cases d with | nil=>exact ⟨a,c,rfl⟩ | cons e f=>simp at har
     rw [if_neg h34,if_neg (by omega),if_neg (by omega)]
     unfold mV
     rw [if_neg h34,if_pos hle]
     have hy:=hIH y (by simp) (if lvO op=3 then 4 else lvO op)
     have hz:=hIH z (by simp) (lvO op + 1)
     have h5:LexTo NoW ([32]++(sgL op++([32]++prt z (lvO op + 1)))) ([]++([tkOp op]++([]++tkE uX z (lvO op + 1)))):=LexTo.blank.app ((LexTo.op hle.1 hle.2).app (LexTo.blank.app hz fun _ _=>trivial) fun r _=>rfl) fun _ _=>trivial
     exact (hy.app h5 fun r _=>NoW.sep (.inl rfl) _).eq (by simp [prtL]) (by simp [tkL])
theorem LexTo.all {C:List UInt8→Prop} {l:List UInt8} {ts:List Tok} (h:LexTo C l ts) (h0:C []):∃ us,lexF l=.ok us∧us.map (·.t)=ts:=by
 obtain ⟨us,f,e,hf,h⟩:=h [] h0 (l.length + 1) 0 [] (by simp)
 rw [List.append_nil] at h
 exact ⟨us,by unfold lexF; rw [h,lexGo_nil]; rfl,e⟩
theorem noW_nil:NoW []:=fun c h=>by cases h
end Go.Proofs.YthplkompdehjlaaGreatDoor
namespace Go.Proofs.YthplkompdehjlaaGreatDoor
open Go.RowKit
set_option linter.unusedVariables false
theorem tmem_at {l:List UInt8} {j:Nat} {c:UInt8} {r:List UInt8} (hj:j < l.length) (h:(l++r)[j]?=some c):c∈l:=by
 rw [List.getElem?_append_left hj] at h
 exact List.mem_of_getElem? h
theorem idx_c {front r sep s':List UInt8} {c:UInt8} (hs:sep=c :: s') (hf:c ∉ front):Lib.index (front++(sep++r)) sep=(front.length:Int):=by
 refine Lib.index_first (i:=front.length) (by simp) (by unfold Lib.occAt; rw [List.drop_left]; exact List.isPrefixOf_iff_prefix.2 (List.prefix_append _ _)) fun j hj=>?_
 cases ho:Lib.occAt (front++(sep++r)) sep j with
 | false=>rfl
 | true=>exact absurd (tmem_at hj (Lib.occAt_head hs ho)) hf
theorem idx_none {l sep s':List UInt8} {c:UInt8} (hs:sep=c :: s') (hf:c ∉ l):Lib.index l sep = -1:=by
 refine Lib.index_none fun j hj=>?_
 cases ho:Lib.occAt l sep j with
 | false=>rfl
 | true=>exact absurd (List.mem_of_getElem? (Lib.occAt_head hs ho)) hf
theorem idx_c2 {front r sep t:List UInt8} {c d:UInt8} (hs:sep=c :: d :: t) (hf:d ∉ front) (hcd:d≠c):Lib.index (front++(sep++r)) sep=(front.length:Int):=by
 refine Lib.index_first (i:=front.length) (by simp) (by unfold Lib.occAt; rw [List.drop_left]; exact List.isPrefixOf_iff_prefix.2 (List.prefix_append _ _)) fun j hj=>?_
 cases ho:Lib.occAt (front++(sep++r)) sep j with
 | false=>rfl
 | true =>
  have h2:=Lib.occAt_second hs ho
  rcases (by omega:j + 1 < front.length∨j + 1=front.length) with q | q
  ·exact absurd (tmem_at q h2) hf
  ·rw [q,List.getElem?_append_right (Nat.le_refl _),Nat.sub_self,hs] at h2
   simp at h2
   exact absurd h2.symm hcd
theorem idx_none2 {l sep t:List UInt8} {c d:UInt8} (hs:sep=c :: d :: t) (hf:d ∉ l):Lib.index l sep = -1:=by
 refine Lib.index_none fun j hj=>?_
 cases ho:Lib.occAt l sep j with
 | false=>rfl
 | true=>exact absurd (List.mem_of_getElem? (Lib.occAt_second hs ho)) hf
theorem cut_hit {front r sep:List UInt8} (h:Lib.index (front++(sep++r)) sep=(front.length:Int)):Lib.cut (front++(sep++r)) sep=(front,r,true):=by
 unfold Lib.cut
 rw [h,if_pos (by omega)]
 have e:((front.length:Int)).toNat=front.length:=by omega
 rw [e,List.take_left,← List.append_assoc,← List.length_append,List.drop_left]
theorem cut_miss {l sep:List UInt8} (h:Lib.index l sep = -1):Lib.cut l sep=(l,[],false):=by
 unfold Lib.cut
 rw [h,if_neg (by omega)]
theorem jV (x y:List UInt8) (r:List (List UInt8)) (sep:List UInt8):Lib.join (x :: y :: r) sep=x++(sep++Lib.join (y :: r) sep):=by
 rw [Lib.join_cons,Lib.join_cons]
 unfold Lib.joinTail
 simp
theorem split_join {sep s':List UInt8} {c:UInt8} (hs:sep=c :: s'):∀ l:List (List UInt8),l≠[]→(∀ x∈l,c ∉ x)→Lib.split (Lib.join l sep) sep=l
 | [],h,_=>absurd rfl h
 | [x],_,hx=>by
  rw [Lib.join_one]
  have hi:=idx_none hs (hx x (by simp))
  unfold Lib.split
  rw [Lib.count_miss hi]; rfl
 | x :: y :: r,_,hx=>by
  have ih:=split_join hs (y :: r) (by simp) (fun z hz=>hx z (List.mem_cons_of_mem _ hz))
  rw [jV]
  have hi:=idx_c (r:=Lib.join (y :: r) sep) hs (hx x (by simp))
  have hd:(x++(sep++Lib.join (y :: r) sep)).drop (x.length + sep.length)=Lib.join (y :: r) sep:=by rw [← List.append_assoc,← List.length_append,List.drop_left]
  unfold Lib.split at ih ⊢
  rw [Lib.count_hit (by rw [hs]; simp) hi,hd,Nat.add_comm 1,Lib.splitK,hi,if_neg (by intro q; have:=beq_iff_eq.1 q; omega)]
  have e:((x.length:Int)).toNat=x.length:=by omega
  rw [e,Nat.add_zero,List.take_left,hd,ih]
def Prn (l:List UInt8):Prop:=∀ c∈l,32≤c.toNat∧c.toNat≤126
theorem Prn.app {a b:List UInt8} (ha:Prn a) (hb:Prn b):Prn (a++b):=fun c hc=>by
 rcases List.mem_append.1 hc with q | q
 ·exact ha c q
 ·exact hb c q
theorem Prn.cons {c:UInt8} {b:List UInt8} (ha:32≤c.toNat∧c.toNat≤126) (hb:Prn b):Prn (c :: b):=fun d hd=>by
 rcases List.mem_cons.1 hd with q | q
 ·rw [q]; exact ha
 ·exact hb d q
theorem Prn.nil:Prn []:=fun c hc=>by cases hc
theorem Prn.no10 {l:List UInt8} (h:Prn l):(10:UInt8) ∉ l:=fun q=>by
 have:=(h 10 q).1
 revert this; decide
theorem prn_word {l:List UInt8} (h:∀ c∈l,iV c=true):Prn l:=fun c hc=>by
 have:=h c hc
 unfold iV gV fV at this
 simp at this
 omega
theorem word_all {l:List UInt8} (h:xX iV l=l.length):∀ c∈l,iV c=true:=fun c hc=>by
 obtain ⟨i,hi,rfl⟩:=List.mem_iff_getElem.1 hc
 exact span_all iV l i _ (by omega) (List.getElem?_eq_getElem hi)
theorem name_prn {l:List UInt8} (h:oJ l):Prn l:=prn_word (word_all h.2.2.2.1)
theorem nameOk_no {l:List UInt8} (h:oJ l) {c:UInt8} (hc:iV c=false):c ∉ l:=fun q=>by
 have:=word_all h.2.2.2.1 c q
 rw [hc] at this; cases this
theorem esc_prn {l:List UInt8} (h:Prn l):Prn (jK l):=by
 induction l with
 | nil=>exact Prn.nil
 | cons c l ih =>
  have h1:=h c (by simp)
  have ih:=ih (fun x hx=>h x (List.mem_cons_of_mem _ hx))
  show Prn (escB c++jK l)
  refine Prn.app ?_ ih
  unfold escB
  split
  ·exact Prn.cons (by decide) (Prn.cons h1 Prn.nil)
  ·exact Prn.cons h1 Prn.nil
theorem dec_prn (u:Nat):Prn (Lib.decDigits u):=by
 induction u using Nat.strongRecOn with
 | _ u ih =>
  by_cases h:u < 10
  ·rw [Lib.decDigits,dif_pos h]
   exact Prn.cons (by rw [dig_toNat u h]; omega) Prn.nil
  ·rw [Lib.decDigits,dif_neg h]
   exact Prn.app (ih _ (by omega)) (Prn.cons (by rw [dig_toNat _ (Nat.mod_lt _ (by omega))]; omega) Prn.nil)
theorem shw_prn {k n:Int} {s:ByteArray} (hk:KnownV k n s) (hn:k=1→0≤n):Prn (uX k n s):=by
 rcases hk with ⟨rfl,h,rfl⟩ | ⟨rfl,h,rfl⟩ | ⟨rfl,rfl,h1,h2⟩
 ·obtain ⟨u,rfl⟩:∃ u:Nat,n=(u:Int):=⟨n.toNat,by have:=hn rfl; omega⟩
  have e:uX 1 (u:Int) ⟨#[]⟩=Lib.decDigits u:=by show (Lib.itoa (u:Int)).toArray.toList=_; rw [Lib.itoa_nonneg]
  rw [e]; exact dec_prn u
 ·rcases h with rfl | rfl
  ·exact fun c hc=>by revert c; decide
  ·exact fun c hc=>by revert c; decide
 ·show Prn (34 :: (jK s.data.toList++[34]))
  refine Prn.cons (by decide) (Prn.app (esc_prn fun c hc=>?_) (Prn.cons (by decide) Prn.nil))
  obtain ⟨i,hi,rfl⟩:=List.mem_iff_getElem.1 hc
  exact h2 i (by rw [← toList_size]; exact hi)
theorem sg_prn {op:Int} (h1:3≤op) (h2:op≤18):Prn (sgL op):=by
 obtain rfl | rfl | rfl | rfl | rfl | rfl | rfl | rfl | rfl | rfl | rfl | rfl | rfl | rfl | rfl | rfl:op=3∨op=4∨op=5∨op=6∨op=7∨op=8∨op=9∨op=10∨op=11∨op=12∨op=13∨op=14∨op=15∨op=16∨op=17∨op=18:=by omega
 all_goals exact fun c hc=>by revert c; decide
theorem comma_prn:∀ l:List (List UInt8),(∀ p∈l,Prn p)→Prn (cK l)
 | [],_=>Prn.nil
 | [p],h=>h p (by simp)
 | p :: q :: r,h=>(h p (by simp)).app (Prn.cons (by decide) (Prn.cons (by decide) (comma_prn (q :: r) fun x hx=>h x (List.mem_cons_of_mem _ hx))))
theorem prtL_prn:∀ (args:List Ex) (ls:List Nat),(∀ y∈args,∀ l,Prn (prt y l))→∀ p∈prtL args ls,Prn p
 | [],ls,_,p,hp=>by rw [prtL] at hp; cases hp
 | x :: r,ls,h,p,hp=>by
  rw [prtL] at hp
  rcases List.mem_cons.1 hp with rfl | hp
  ·exact h x (by simp) _
  ·exact prtL_prn r _ (fun y hy=>h y (List.mem_cons_of_mem _ hy)) p hp
theorem head_prn {l:List (List UInt8)} (h:∀ p∈l,Prn p):Prn (l.headD []):=by
 cases l with
 | nil=>exact Prn.nil
 | cons a b=>exact h a (by simp)
theorem prt_prn:∀ (m:Nat) (x:Ex) (l:Nat),(szE x).1≤m→WfE x→Prn (prt x l)
 | 0,x,l,hm,_=>by have:=gY x; omega
 | m + 1,x,l,hm,hw=>by
  have IH:=prt_prn m
  have hse:=fY x
  have hwt:=hw.top
  have hwl:=hw.list
  rw [hse] at hm
  obtain ⟨op,k,n,s,nm,args⟩:=x
  simp only [Ex.args,TopOk,Ex.op,Ex.k,Ex.n,Ex.s,Ex.nm] at hm hwt hwl
  have hIH:∀ y∈args,∀ l,Prn (prt y l):=fun y hy l=>IH y l (by have:=(iY hy).1; omega) (hwl.get hy)
  have hb:Prn (bdB op k n s nm (prtL args (mV op))):=by
   have hL:=prtL_prn args (mV op) hIH
   have hT:∀ p∈(prtL args (mV op)).tail,Prn p:=fun p hp=>hL p (List.mem_of_mem_tail hp)
   unfold bdB
   rcases hwt with ⟨h1,h2,h3,-⟩ | ⟨h1,h2,-⟩ | ⟨h1,h2,-⟩
   ·rw [if_pos h1]; exact shw_prn h2 h3
   ·rw [if_neg (by omega),if_pos h1]; exact name_prn h2
   ·have hsg:=sg_prn h1 h2
    rw [if_neg (show ¬ op=1 by omega),if_neg (show ¬ op=2 by omega)]
    split
    ·exact hsg.app (Prn.cons (by decide) ((comma_prn _ hL).app (Prn.cons (by decide) Prn.nil)))
    ·split
     ·exact Prn.cons (by decide) (head_prn hL)
     ·split
      ·exact Prn.cons (by decide) (Prn.cons (by decide) (Prn.cons (by decide) (Prn.cons (by decide) (head_prn hL))))
      ·exact (head_prn hL).app (Prn.cons (by decide) (hsg.app (Prn.cons (by decide) (head_prn hT))))
  rw [prt]
  unfold brB
  split
  ·exact Prn.cons (by decide) (hb.app (Prn.cons (by decide) Prn.nil))
  ·exact hb
def tyW (t:Int):List UInt8:=if t=1 then [105,110,116] else if t=2 then [98,111,111,108] else if t=3 then [116,101,120,116] else []
def kdW (k:Int):List UInt8:=if k=1 then [105,110,112,117,116] else if k=2 then [102,111,114,109,117,108,97] else if k=3 then [108,111,111,107,117,112] else []
def fdF (f:Fd):List UInt8:=kdW f.kind++32 :: (f.name.data.toList++32 :: tyW f.ty)
def fdL (f:Fd):List UInt8:=if f.kind=1 then fdF f else fdF f++([32,61,32]++prt f.src 1)
theorem kd_word {k:Int} (h1:1≤k) (h3:k≤3):∀ c∈kdW k,iV c=true:=by
 obtain rfl | rfl | rfl:k=1∨k=2∨k=3:=by omega
 all_goals exact fun c hc=>by revert c; decide
theorem ty_word {k:Int} (h1:1≤k) (h3:k≤3):∀ c∈tyW k,iV c=true:=by
 obtain rfl | rfl | rfl:k=1∨k=2∨k=3:=by omega
 all_goals exact fun c hc=>by revert c; decide
structure FdW (f:Fd):Prop where
 nm:oJ f.name.data.toList
 k1:1≤f.kind
 k3:f.kind≤3
 t1:1≤f.ty
 t3:f.ty≤3
 wf:f.kind≠1→WfE f.src
theorem fdF_no {f:Fd} (h:FdW f) {c:UInt8} (hc:iV c=false) (h32:c≠32):c ∉ fdF f:=fun q=>by
 unfold fdF at q
 simp only [List.mem_append,List.mem_cons] at q
 rcases q with q | q | q | q | q
 ·have:=kd_word h.k1 h.k3 c q; rw [hc] at this; cases this
 ·exact h32 q
 ·exact nameOk_no h.nm hc q
 ·exact h32 q
 ·have:=ty_word h.t1 h.t3 c q; rw [hc] at this; cases this
theorem fdL_cut {f:Fd} (h:FdW f):Lib.cut (fdL f) [32,61,32]=(fdF f,if f.kind=1 then [] else prt f.src 1,f.kind != 1):=by
 unfold fdL
 by_cases k:f.kind=1
 ·rw [if_pos k,if_pos k,cut_miss (idx_none2 (d:=61) rfl (fdF_no h (by decide) (by decide))),k]; rfl
 ·rw [if_neg k,if_neg k,cut_hit (idx_c2 (d:=61) rfl (fdF_no h (by decide) (by decide)) (by decide)),bne_iff_ne.2 k]
theorem no32 {l:List UInt8} (h:∀ c∈l,iV c=true):(32:UInt8) ∉ l:=fun q=>by
 have:=h 32 q
 revert this; decide
theorem fdF_split {f:Fd} (h:FdW f):Lib.split (fdF f) [32]=[kdW f.kind,f.name.data.toList,tyW f.ty]:=by
 have e:fdF f=Lib.join [kdW f.kind,f.name.data.toList,tyW f.ty] [32]:=by
  rw [jV,jV,Lib.join_one]; rfl
 rw [e]
 refine split_join (c:=32) rfl _ (by simp) fun x hx=>?_
 simp only [List.mem_cons,List.not_mem_nil,or_false] at hx
 rcases hx with rfl | rfl | rfl
 ·exact no32 (kd_word h.k1 h.k3)
 ·exact nameOk_no h.nm (by decide)
 ·exact no32 (ty_word h.t1 h.t3)
theorem fdL_prn {f:Fd} (h:FdW f):Prn (fdL f):=by
 have hF:Prn (fdF f):=(prn_word (kd_word h.k1 h.k3)).app (Prn.cons (by decide) ((name_prn h.nm).app (Prn.cons (by decide) (prn_word (ty_word h.t1 h.t3)))))
 unfold fdL
 split
 ·exact hF
 ·rename_i k
  exact hF.app (Prn.app (fun c hc=>by revert c; decide) (prt_prn _ _ _ (Nat.le_refl _) (h.wf k)))
end Go.Proofs.YthplkompdehjlaaGreatDoor
namespace Go.Proofs.YthplkompdehjlaaGreatDoor
open Go.RowKit
set_option linter.unusedVariables false
def PlainT (t:Tok):Prop:=∀ s∈([[45],[110,111,116],[40],[116,114,117,101],[102,97,108,115,101],[105,102],[108,101,110]]:List (List UInt8)),(t.kd != 3 && t.s == s)=false
theorem PlainT.quote {t:Tok} (h:t.kd=3):PlainT t:=fun s _=>by rw [h]; rfl
theorem PlainT.num {t:Tok} {c:UInt8} {r:List UInt8} (h:t.s=c :: r) (hc:48≤c.toNat∧c.toNat≤57):PlainT t:=fun s hs=>by
 have:(t.s == s)=false:=beq_eq_false_iff_ne.2 (by
  intro e
  rw [h] at e
  simp only [List.mem_cons,List.not_mem_nil,or_false] at hs
  rcases hs with rfl | rfl | rfl | rfl | rfl | rfl | rfl <;> (injection e with e; subst e; revert hc; decide))
 rw [this,Bool.and_false]
theorem PlainT.name {t:Tok} (h:oJ t.s):PlainT t:=fun s hs=>by
 obtain ⟨-,-,⟨c,hc,hl⟩,-,hk⟩:=h
 have:(t.s == s)=false:=beq_eq_false_iff_ne.2 (by
  intro e
  rw [e] at hc hk
  simp only [List.mem_cons,List.not_mem_nil,or_false] at hs
  rcases hs with rfl | rfl | rfl | rfl | rfl | rfl | rfl
  all_goals first
   | (exact absurd hk (by decide))
   | (simp at hc; subst hc; revert hl; decide))
 rw [this,Bool.and_false]
theorem prs_leaf {T:List Tok} {k:Nat} {t:Tok} {r:List Tok} {x:Ex} (ha:TAt T k (t :: r)) (hp:PlainT t)
  (hx:(if t.kd=2∧isKey t.s=false then PR.ok (refE ⟨t.s.toArray⟩) (k + 1) else if t.kd=1∨t.kd=3 then .ok (conV t) (k + 1) else .bad k)=.ok x (k + 1)):OnO T k x (k + 1):=by
 have h:=fun s hs=>(ha.is s).trans (hp s hs)
 refine prs_on (h _ (by simp)) (h _ (by simp)) ⟨1,fun f hf=>?_⟩
 obtain ⟨g,rfl⟩:∃ g,f=g + 1:=⟨f - 1,by omega⟩
 show (if isK T k [40]=true then _ else if isK T k [116,114,117,101]=true then _ else if isK T k [102,97,108,115,101]=true then _ else if isK T k [105,102]=true then _ else if isK T k [108,101,110]=true then _ else _)=_
 rw [h _ (by simp),h _ (by simp),h _ (by simp),h _ (by simp),h _ (by simp)]
 simp only [Bool.false_eq_true,if_false]
 rw [ha.get]
 exact hx
theorem prs_bool {T:List Tok} {k:Nat} {r:List Tok} (b:Bool) (ha:TAt T k (tW (if b then [116,114,117,101] else [102,97,108,115,101]) :: r)):OnO T k (.mk 1 2 (if b then 1 else 0) ⟨#[]⟩ ⟨#[]⟩ []) (k + 1):=by
 have h:=fun s=>ha.is s
 cases b
 all_goals
  refine prs_on ((h _).trans (by decide)) ((h _).trans (by decide)) ⟨1,fun f hf=>?_⟩
  obtain ⟨g,rfl⟩:∃ g,f=g + 1:=⟨f - 1,by omega⟩
  show (if isK T k [40]=true then _ else if isK T k [116,114,117,101]=true then _ else if isK T k [102,97,108,115,101]=true then _ else _)=_
  rw [h,h,h]
  rfl
theorem prs_call {T:List Tok} {k k' n:Nat} {op:Int} {r:List Tok} {l:List Ex} (ho:(op=17∧n=3)∨(op=18∧n=1)) (ha:TAt T k (tkOp op :: r)) (h:∃ F,∀ f,F≤f→(yW T f).ag n 0 [] (k + 1)=.ok l k'):OnO T k (opE op l) k':=by
 have hi:=fun s=>ha.is s
 obtain ⟨F,h⟩:=h
 rcases ho with ⟨rfl,rfl⟩ | ⟨rfl,rfl⟩
 all_goals
  refine prs_on ((hi _).trans (by decide)) ((hi _).trans (by decide)) ⟨F + 1,fun f hf=>?_⟩
  obtain ⟨g,rfl⟩:∃ g,f=g + 1:=⟨f - 1,by omega⟩
  show (if isK T k [40]=true then _ else if isK T k [116,114,117,101]=true then _ else if isK T k [102,97,108,115,101]=true then _ else if isK T k [105,102]=true then _ else if isK T k [108,101,110]=true then _ else _)=_
  rw [hi,hi,hi,hi,hi]
  have:=h g (by omega)
  simp only [tkOp,sgL,tW] at *
  first
   | (show ((yW T g).ag 3 0 [] (k + 1)).then _=_; rw [this]; rfl)
   | (show ((yW T g).ag 1 0 [] (k + 1)).then _=_; rw [this]; rfl)
theorem rd_any (T:List Tok):∀ (m:Nat) (x:Ex) (l k:Nat),(szE x).1≤m→WfE x→1≤l→l≤6→TAt T k (tkE uX x l)→Rd T l k x (k + (tkE uX x l).length)
 | 0,x,l,k,hm,_,_,_,_=>by have:=gY x; omega
 | m + 1,x,l,k,hm,hw,hl1,hl6,hat=>by
  have IH:=rd_any T m
  have hse:=fY x
  have hwt:=hw.top
  have hwl:=hw.list
  rw [hse] at hm
  obtain ⟨op,kk,n,s,nm,args⟩:=x
  simp only [Ex.args,TopOk,Ex.op,Ex.k,Ex.n,Ex.s,Ex.nm] at hm hwt hwl
  have hIH:∀ y∈args,∀ l k,1≤l→l≤6→TAt T k (tkE uX y l)→Rd T l k y (k + (tkE uX y l).length):=fun y hy l k=>IH y l k (by have:=(iY hy).1; omega) (hwl.get hy)
  have hb:∀ k,TAt T k (bdT uX op kk n s nm (tkL uX args (mV op)))→(6≤lvO op→OnO T k (.mk op kk n s nm args) (k + (bdT uX op kk n s nm (tkL uX args (mV op))).length)) ∧
    (lvO op≤5→∀ l,l≤lvO op→Rd T l k (.mk op kk n s nm args) (k + (bdT uX op kk n s nm (tkL uX args (mV op))).length)):=by
   intro k ha
   rcases hwt with ⟨h1,h2,h3,h4,h5⟩ | ⟨h1,h2,h3,h4,h5,h6⟩ | ⟨h1,h2,h3,h4,h5,h6,h7⟩
   ·have hlv:lvO op=7:=by rw [h1]; rfl
    have ea:args=[]:=List.length_eq_zero_iff.1 h5
    have hbt:bdT uX op kk n s nm (tkL uX args (mV op))=[conT kk n (uX kk n s) s.data.toList]:=by unfold bdT; rw [if_pos h1]
    rw [hbt] at ha ⊢
    refine ⟨fun _=>?_,fun q=>by omega⟩
    subst h1 h4 ea
    rcases h2 with ⟨rfl,g,rfl⟩ | ⟨rfl,g,rfl⟩ | ⟨rfl,rfl,g1,g2⟩
    ·obtain ⟨u,rfl⟩:∃ u:Nat,n=(u:Int):=⟨n.toNat,by have:=h3 rfl; omega⟩
     obtain ⟨c,r,e,e1,e2⟩:=dec_head u
     refine prs_leaf ha (PlainT.num (c:=c) (r:=r) ?_ ⟨e1,e2⟩) ?_
     ·show (Lib.itoa (u:Int)).toArray.toList=_; rw [Lib.itoa_nonneg,e]
     ·simp [conT,conV]
    ·rcases g with rfl | rfl
     ·exact prs_bool false ha
     ·exact prs_bool true ha
    ·refine prs_leaf ha (PlainT.quote rfl) ?_
     simp [conT,conV]
   ·have hlv:lvO op=7:=by rw [h1]; rfl
    have ea:args=[]:=List.length_eq_zero_iff.1 h6
    have hbt:bdT uX op kk n s nm (tkL uX args (mV op))=[tW nm.data.toList]:=by unfold bdT; rw [if_neg (by omega),if_pos h1]
    rw [hbt] at ha ⊢
    refine ⟨fun _=>?_,fun q=>by omega⟩
    subst h1 h3 h4 h5 ea
    refine prs_leaf ha (PlainT.name h2) ?_
    rw [if_pos ⟨rfl,h2.2.2.2.2⟩]
    rfl
   ·rcases lv7 h1 h2 with ⟨q7,q⟩ | ⟨q6,q⟩ | ⟨q1,q5,o5,o16⟩
    ·have hls:mV op=[]:=by rcases q with rfl | rfl <;> decide
     have hbt:bdT uX op kk n s nm (tkL uX args (mV op))=tkOp op :: tS [40] :: (dK (args.map (tkE uX · 1))++[tS [41]]):=by unfold bdT; rw [if_neg (by omega),if_neg (by omega),if_pos q7,hls,tkL_nil]
     rw [hbt] at ha ⊢
     refine ⟨fun _=>?_,fun z=>by omega⟩
     subst h3 h4 h5 h6
     have hne:args.map (tkE uX · 1)≠[]:=by
      intro e
      have:=congrArg List.length e
      simp only [List.length_map,List.length_nil] at this
      rw [h7] at this
      rcases q with rfl | rfl <;> revert this <;> decide
     have hag:=prs_ag args.length args (args.map (tkE uX · 1)) [] 0 (k + 1) (by simp) (by simp) (fun z=>by omega) (fun _=>⟨hne,ha.tail⟩) (fun j p x t e1 e2 e3=>by
      rw [List.getElem?_map,e1] at e2
      simp only [Option.map_some,Option.some.injEq] at e2
      subst e2
      exact hIH x (List.mem_of_getElem? e1) 1 p (by omega) (by omega) e3)
     rw [if_neg hne] at hag
     have hfin:=prs_call (n:=args.length) (op:=op) (by rcases q with rfl | rfl <;> rw [h7] <;> decide) ha hag
     have hk:k + 1 + (tS [44] :: dK (args.map (tkE uX · 1))++[tS [41]]).length=k + (tkOp op :: tS [40] :: (dK (args.map (tkE uX · 1))++[tS [41]])).length:=by simp; omega
     rw [← hk]
     exact hfin
    ·have hls:mV op=[6]:=by rcases q with rfl | rfl <;> decide
     have har:args.length=1:=by rw [h7]; rcases q with rfl | rfl <;> decide
     obtain ⟨y,rfl⟩:∃ y,args=[y]:=by
      cases args with
      | nil=>simp at har
      | cons a b=>cases b with | nil=>exact ⟨a,rfl⟩ | cons c d=>simp at har
     have hbt:bdT uX op kk n s nm (tkL uX [y] (mV op))=tkOp op :: tkE uX y 6:=by unfold bdT; rw [if_neg (by omega),if_neg (by omega),if_neg (by omega),if_pos q,hls]; simp [tkL]
     rw [hbt] at ha ⊢
     refine ⟨fun _=>?_,fun z=>by omega⟩
     subst h3 h4 h5 h6
     have:=prs_sg q ha ((hIH y (by simp) 6 (k + 1) (by omega) (by omega) ha.tail).on rfl)
     rw [List.length_cons,show k + ((tkE uX y 6).length + 1)=k + 1 + (tkE uX y 6).length by omega]
     exact this
    ·have hls:mV op=[if lvO op=3 then 4 else lvO op,lvO op + 1]:=by unfold mV; rw [if_neg (by omega),if_pos ⟨o5,o16⟩]
     have har:args.length=2:=by rw [h7]; unfold arity; rw [if_neg (by omega),if_neg (by omega),if_neg (by omega)]
     obtain ⟨y,z,rfl⟩:∃ y z,args=[y,z]:=by
      cases args with
      | nil=>simp at har
      | cons a b=>cases b with | nil=>simp at har | cons c d=>cases d with | nil=>exact ⟨a,c,rfl⟩ | cons e f=>simp at har
     have hbt:bdT uX op kk n s nm (tkL uX [y,z] (mV op))=tkE uX y (if lvO op=3 then 4 else lvO op)++tkOp op :: tkE uX z (lvO op + 1):=by unfold bdT; rw [if_neg (by omega),if_neg (by omega),if_neg (by omega),if_neg (by omega),hls]; simp [tkL]
     rw [hbt] at ha ⊢
     refine ⟨fun _=>by omega,fun _ l hl=>?_⟩
     subst h3 h4 h5 h6
     have hs:=ha.snd
     have hy:=hIH y (by simp) (if lvO op=3 then 4 else lvO op) k (by split <;> omega) (by split <;> omega) ha.fst
     have hz:=hIH z (by simp) (lvO op + 1) _ (by omega) (by omega) hs.tail
     have:=rd_two o5 o16 hy (fun l hl=>by rw [hs.op,opnT_op o5 o16 l hl]) hz ⟨q1,q5⟩
     rw [List.length_append,List.length_cons,show k + ((tkE uX y (if lvO op=3 then 4 else lvO op)).length + ((tkE uX z (lvO op + 1)).length + 1))=k + (tkE uX y (if lvO op=3 then 4 else lvO op)).length + 1 + (tkE uX z (lvO op + 1)).length by omega]
     exact Rd.of_lv q5 hl this
  rw [tkE] at hat ⊢
  unfold brT at hat ⊢
  split at hat
  ·rename_i hbr
   rw [if_pos hbr]
   have hin:=hb (k + 1) hat.tail.fst
   have h1:Rd T 1 (k + 1) (.mk op kk n s nm args) (k + 1 + (bdT uX op kk n s nm (tkL uX args (mV op))).length):=by
    have hlo:1≤lvO op:=by
     rcases hwt with ⟨h1,-⟩ | ⟨h1,-⟩ | ⟨h1,h2,-⟩
     ·rw [h1]; decide
     ·rw [h1]; decide
     ·rcases lv7 h1 h2 with ⟨q,-⟩ | ⟨q,-⟩ | ⟨q,-⟩ <;> omega
    rcases Nat.lt_or_ge (lvO op) 6 with q | q
    ·exact hin.2 (by omega) 1 hlo
    ·exact Rd.of_on (hin.1 q)
   have:=Rd.of_on (l:=l) (prs_br hat rfl h1)
   rw [show k + (tS [40] :: (bdT uX op kk n s nm (tkL uX args (mV op))++[tS [41]])).length=k + 1 + (bdT uX op kk n s nm (tkL uX args (mV op))).length + 1 by simp; omega]
   exact this
  ·rename_i hbr
   rw [if_neg hbr]
   have hin:=hb k hat
   rcases Nat.lt_or_ge (lvO op) 6 with q | q
   ·exact hin.2 (by omega) l (by omega)
   ·exact Rd.of_on (hin.1 q)
theorem read_all {T:List Tok} {x:Ex} (hw:WfE x) (hT:T=tkE uX x 1):∃ F,∀ f,F≤f→(yW T f).lv 1 0=.ok x T.length:=by
 have h:=rd_any T _ x 1 0 (Nat.le_refl _) hw (by omega) (by omega) ⟨[],[],by simp [hT],rfl⟩
 rw [← hT,Nat.zero_add] at h
 have hn:∀ j,opkT T j T.length=0:=fun j=>opkT_end (List.getElem?_eq_none (Nat.le_refl _))
 exact h.ok (by omega) (fun j _ _=>hn j) (hn 1)
end Go.Proofs.YthplkompdehjlaaGreatDoor
