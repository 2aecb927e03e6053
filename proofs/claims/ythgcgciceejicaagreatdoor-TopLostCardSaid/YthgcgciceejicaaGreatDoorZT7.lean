/-
  Walks whose states are not written out: what a run leaves is reckoned by the kernel where it is wanted.
-/
import Derived.Test.YthgcgciceejicaaGreatDoorZT5
import Derived.Test.YthgcgciceejicaaGreatDoorZT6
namespace Go.Proofs.YthgcgciceejicaaGreatDoor
open Go.RowKit
set_option linter.unusedVariables false
structure Z where
 p:Pt
 ks:List Kt
 E:List (Nat × Value)
 B:List Ent
 F:List Fac
def Z.st (s:Z) (hs:List Hint) (cs:List (Nat × Value × Value)):St:=⟨s.p,s.ks,s.E,s.B,s.F,hs,cs⟩
def St.z (s:St):Z:=⟨s.p,s.ks,s.E,s.B,s.F⟩
structure Go (P:Program) (C:Fx) (c0:Code) (Q:Exit->Act->World->Prop) (h:Vw) (s:Z):Prop where
 go:∀ a w,K C s.E s.B s.F h a w->Goal P c0 Q s.p s.ks a w
def isOps:Pt->Bool
 | .ops _ _=>true
 | _=>false
def isCode:Pt->Bool
 | .code _=>true
 | _=>false
def isOut:Pt->Bool
 | .out _=>true
 | _=>false
def ppOf:Pt->List Nat
 | .ops p _=>p
 | .code p=>p
 | _=>[]
def nnOf:Pt->Nat
 | .ops _ n=>n
 | _=>0
def exOf:Pt->Exit
 | .out e=>e
 | _=>.normal
theorem isOps_eq {p:Pt} (h:isOps p=true):p=.ops (ppOf p) (nnOf p):=by cases p <;> first | rfl | cases h
theorem isCode_eq {p:Pt} (h:isCode p=true):p=.code (ppOf p):=by cases p <;> first | rfl | cases h
theorem isOut_eq {p:Pt} (h:isOut p=true):p=.out (exOf p):=by cases p <;> first | rfl | cases h
def Z.ops (c0:Code) (s:Z):Array Oper:=fX c0 (ppOf s.p)
def Z.rest (c0:Code) (s:Z):List Oper:=(s.ops c0).toList.drop (nnOf s.p)
def Z.op (c0:Code) (s:Z):Oper:=dX (s.ops c0) (nnOf s.p)
def Z.d (c0:Code) (s:Z):Nat:=match (s.op c0).dst with | some d=>d | none=>0
def Z.nx (c0:Code) (s:Z) (v:Value):Z:=⟨.ops (ppOf s.p) (nnOf s.p + 1),s.ks,(s.d c0,v) :: s.E,s.B,s.F⟩
def Z.nx0 (s:Z):Z:=⟨.ops (ppOf s.p) (nnOf s.p + 1),s.ks,s.E,s.B,s.F⟩
def Z.inn (s:Z) (i:Nat):Z:=⟨.code (i :: ppOf s.p),s.ks,s.E,s.B,s.F⟩
def Z.end (s:Z):Z:=⟨.out .normal,s.ks,s.E,s.B,s.F⟩
def Z.aE (s:Z) (d:Nat) (v:Value):Z:=⟨s.p,s.ks,(d,v) :: s.E,s.B,s.F⟩
def Z.aB (s:Z) (e:Ent):Z:=⟨s.p,s.ks,s.E,e :: s.B,s.F⟩
def Z.cB (s:Z) (i:Nat) (e:Ent):Z:=⟨s.p,s.ks,s.E,s.B.set i e,s.F⟩
def Z.dB (s:Z) (i:Nat):Z:=⟨s.p,s.ks,s.E,s.B.eraseIdx i,s.F⟩
def Z.aF (s:Z) (b o:Nat) (cs:List Value):Z:=⟨s.p,s.ks,s.E,s.B,(b,o,cs) :: s.F⟩
def Z.on (s:Z) (ks:List Kt):Z:=⟨s.p,ks,s.E,s.B,s.F⟩
def Z.is (s:Z) (E:List (Nat × Value)) (B:List Ent) (F:List Fac):Z:=⟨s.p,s.ks,E,B,F⟩
inductive BoolIs (b:Bool):Prop
 | true (h:b=Bool.true)
 | false (h:b=Bool.false)
theorem boolIs (b:Bool):BoolIs b:=by
 cases b
 ·exact .false rfl
 ·exact .true rfl
section
variable {P:Program} {C:Fx} {c0:Code} {u:World} {Q:Exit->Act->World->Prop} {h h0:Vw} {s:Z}
theorem g_ops (hp:isOps s.p=true) (k:∀ a w,K C s.E s.B s.F h a w->Goal P c0 Q (.ops (ppOf s.p) (nnOf s.p)) s.ks a w):Go P C c0 Q h s:=.mk λa w hK=>by
 have:=k a w hK
 rw [<- isOps_eq hp] at this;exact this
theorem g_code (hp:isCode s.p=true) (k:∀ a w,K C s.E s.B s.F h a w->Goal P c0 Q (.code (ppOf s.p)) s.ks a w):Go P C c0 Q h s:=.mk λa w hK=>by
 have:=k a w hK
 rw [<- isCode_eq hp] at this;exact this
def runZ (P:Program) (C:Fx) (c0:Code) (u:World):Nat->St->List Nm->Z
 | 0,s,_=>s.z
 | n + 1,s,l=>match step1 P C c0 u s with
  | .go s' _=>runZ P C c0 u n s' l
  | .fresh _ f _=>match l with
   | .b b :: l=>runZ P C c0 u n (f b) l
   | _=>s.z
  | .freshV f _=>match l with
   | .v x :: l=>runZ P C c0 u n (f x) l
   | _=>s.z
  | .bad=>s.z
def eK (P:Program) (C:Fx) (c0:Code) (u:World) (fl:Bool):Nat->St->List Bool->List Nm->World->List Any × List Any
 | 0,_,sg,_,_=>match sg with
  | []=>([],[])
  | _=>([.bad],[])
 | n + 1,s,sg,l,w=>match step1 P C c0 u s with
  | .go s' e=>addE (e w) (eK P C c0 u fl n s' sg l w)
  | .fresh fx f e=>match sg,l,fx && !fl with
   | true :: sg,.b b :: l,false=>addE (e w) (eK P C c0 u fl n (f b) sg l w)
   | _,_,_=>([.bad],[])
  | .freshV f e=>match sg,l,fl with
   | false :: sg,.v x :: l,true=>addE (e w) (eK P C c0 u fl n (f x) sg l w)
   | _,_,_=>([.bad],[])
  | .bad=>([.bad],[])
def AllN:List Bool->(List Nm->Prop)->Prop
 | [],q=>q []
 | true :: sg,q=>∀ b:Nat,AllN sg λl=>q (.b b :: l)
 | false :: sg,q=>∀ x:Value,AllN sg λl=>q (.v x :: l)
theorem AllN.mono {q q':List Nm->Prop}:∀ {sg:List Bool},AllN sg q->(∀ l,q l->q' l)->AllN sg q'
 | [],h,k=>k _ h
 | true :: _,h,k=>λb=>AllN.mono (h b) λl=>k (.b b :: l)
 | false :: _,h,k=>λb=>AllN.mono (h b) λl=>k (.v b :: l)
theorem AllN.some {q:List Nm->Prop}:∀ {sg:List Bool},AllN sg q->∃ l,q l
 | [],h=>⟨_,h⟩
 | true :: _,h=>by obtain ⟨l,hl⟩:=AllN.some (h 0); exact ⟨_,hl⟩
 | false :: _,h=>by obtain ⟨l,hl⟩:=AllN.some (h undef); exact ⟨_,hl⟩
def aftZ (P:Program) (C:Fx) (c0:Code) (Q:Exit->Act->World->Prop) (h0:Vw) (fl:Bool) (z:Z):Prop:=∀ h,Sees h0 h->(fl=false->h=h0)->Go P C c0 Q h z
theorem runZ_suff {fl:Bool}:∀ (n:Nat) {s:St} {sg:List Bool} {h:Vw} {a:Act} {w:World},Ok P C h0 fl s h a w->(AllN sg λl=>∀ w,(eK P C c0 u fl n s sg l w).1=(eK P C c0 u fl n s sg l w).2)->(AllN sg λl=>aftZ P C c0 Q h0 fl (runZ P C c0 u n s l))->Goal P c0 Q s.p s.ks a w
 | 0,s,sg,h,a,w,ok,hT,hg=>by
  cases sg with
  | nil=>exact (hg h ok.sees ok.same).go a w ok.k
  | cons x sg =>
   obtain ⟨l,hl⟩:=AllN.some hT
   have:=hl w
   simp [eK] at this
 | n + 1,s,sg,h,a,w,ok,hT,hg=>by
  have hs:=suff_step (c0:=c0) (Q:=Q) (u:=u) ok
  cases hst:step1 P C c0 u s with
  | bad =>
   obtain ⟨l,hl⟩:=AllN.some hT
   have:=hl w
   unfold eK at this;rw [hst] at this;simp at this
  | go s' e =>
   rw [hst] at hs;have key:AllN sg λl=>∀ w,(∀ x∈e w,x.1=x.2)/\(eK P C c0 u fl n s' sg l w).1=(eK P C c0 u fl n s' sg l w).2:=AllN.mono hT λl k w=>by
    have:=k w
    unfold eK at this;rw [hst] at this;exact addE_eq this
   refine hs (λw=>?_) λh a w ok'=>runZ_suff n ok' (AllN.mono key λl k w=>(k w).2) (AllN.mono hg λl k=>by unfold runZ at k; rw [hst] at k; exact k);obtain ⟨l,hl⟩:=AllN.some key;exact (hl w).1
  | fresh fx f e =>
   rw [hst] at hs
   cases sg with
   | nil =>
    have:=hT w
    unfold eK at this;rw [hst] at this;simp at this
   | cons x sg =>
    cases x with
    | false =>
     obtain ⟨l,hl⟩:=AllN.some (hT undef)
     have:=hl w
     unfold eK at this;rw [hst] at this;simp at this
    | true =>
     have key:∀ b,AllN sg λl=>∀ w,((fx && !fl)=false/\∀ x∈e w,x.1=x.2)/\(eK P C c0 u fl n (f b) sg l w).1=(eK P C c0 u fl n (f b) sg l w).2:=λb=>AllN.mono (hT b) λl k w=>by
      have:=k w
      unfold eK at this;rw [hst] at this
      cases hfx:fx && !fl with
      | true=>simp only [hfx] at this; simp at this
      | false =>
       simp only [hfx] at this
       have:=addE_eq this
       exact ⟨⟨rfl,this.1⟩,this.2⟩
     obtain ⟨l,hl⟩:=AllN.some (key 0);refine hs (λw=>(hl w).1.2) (λhx=>?_) λb h a w ok'=>runZ_suff n ok' (AllN.mono (key b) λl k w=>(k w).2) (AllN.mono (hg b) λl k=>by unfold runZ at k; rw [hst] at k; exact k)
     have:=(hl w).1.1
     rw [hx] at this
     simpa using this
  | freshV f e =>
   rw [hst] at hs
   cases sg with
   | nil =>
    have:=hT w
    unfold eK at this;rw [hst] at this;simp at this
   | cons x sg =>
    cases x with
    | true =>
     obtain ⟨l,hl⟩:=AllN.some (hT 0)
     have:=hl w
     unfold eK at this;rw [hst] at this;simp at this
    | false =>
     have key:∀ b,AllN sg λl=>∀ w,(fl=true/\∀ x∈e w,x.1=x.2)/\(eK P C c0 u fl n (f b) sg l w).1=(eK P C c0 u fl n (f b) sg l w).2:=λb=>AllN.mono (hT b) λl k w=>by
      have:=k w
      unfold eK at this;rw [hst] at this
      cases hfx:fl with
      | false=>simp only [hfx] at this; simp at this
      | true =>
       subst hfx
       have:=addE_eq this
       exact ⟨⟨rfl,this.1⟩,this.2⟩
     obtain ⟨l,hl⟩:=AllN.some (key undef);exact hs (λw=>(hl w).1.2) (hl w).1.1 λb h a w ok'=>runZ_suff n ok' (AllN.mono (key b) λl k w=>(k w).2) (AllN.mono (hg b) λl k=>by unfold runZ at k; rw [hst] at k; exact k)
theorem rZ (fl:Bool) (n:Nat) (hs:List Hint) (cs:List (Nat × Value × Value)) (sg:List Bool) (k:AllN sg λl=>aftZ P C c0 Q h fl (runZ P C c0 C.w0 n (s.st hs cs) l)) (ho:owes P h hs) (hc:owesC cs)
  (hr:AllN sg λl=>∀ w,(eK P C c0 C.w0 fl n (s.st hs cs) sg l w).1=(eK P C c0 C.w0 fl n (s.st hs cs) sg l w).2):Go P C c0 Q h s:=.mk λ_ _ hK =>
 runZ_suff n (s:=s.st hs cs) ⟨hK,Sees.refl _,ho,hc,λ_=>rfl⟩ hr k
theorem go0 (n:Nat) (hs:List Hint) (cs:List (Nat × Value × Value)) (k:Go P C c0 Q h (runZ P C c0 C.w0 n (s.st hs cs) [])) (ho:owes P h hs:=by exact Oq) (hc:owesC cs:=by exact Oq)
  (hr:∀ w,(eK P C c0 C.w0 false n (s.st hs cs) [] [] w).1=(eK P C c0 C.w0 false n (s.st hs cs) [] [] w).2:=by intro _; kernel_rfl):Go P C c0 Q h s :=
 rZ false n hs cs [] (λh' _ e=>by rw [e rfl]; exact k) ho hc hr
theorem go1 (n:Nat) (hs:List Hint) (cs:List (Nat × Value × Value)) (k:∀ b,Go P C c0 Q h (runZ P C c0 C.w0 n (s.st hs cs) [.b b])) (ho:owes P h hs:=by exact Oq) (hc:owesC cs:=by exact Oq)
  (hr:∀ b w,(eK P C c0 C.w0 false n (s.st hs cs) [true] [.b b] w).1=(eK P C c0 C.w0 false n (s.st hs cs) [true] [.b b] w).2:=by intro _ _; kernel_rfl):Go P C c0 Q h s :=
 rZ false n hs cs [true] (λb h' _ e=>by rw [e rfl]; exact k b) ho hc hr
theorem go2 (n:Nat) (hs:List Hint) (cs:List (Nat × Value × Value)) (k:∀ b c,Go P C c0 Q h (runZ P C c0 C.w0 n (s.st hs cs) [.b b,.b c])) (ho:owes P h hs:=by exact Oq) (hc:owesC cs:=by exact Oq)
  (hr:∀ b c w,(eK P C c0 C.w0 false n (s.st hs cs) [true,true] [.b b,.b c] w).1=(eK P C c0 C.w0 false n (s.st hs cs) [true,true] [.b b,.b c] w).2:=by intro _ _ _; kernel_rfl):Go P C c0 Q h s :=
 rZ false n hs cs [true,true] (λb c h' _ e=>by rw [e rfl]; exact k b c) ho hc hr
theorem go3 (n:Nat) (hs:List Hint) (cs:List (Nat × Value × Value)) (k:∀ b c d,Go P C c0 Q h (runZ P C c0 C.w0 n (s.st hs cs) [.b b,.b c,.b d])) (ho:owes P h hs:=by exact Oq) (hc:owesC cs:=by exact Oq)
  (hr:∀ b c d w,(eK P C c0 C.w0 false n (s.st hs cs) [true,true,true] [.b b,.b c,.b d] w).1=(eK P C c0 C.w0 false n (s.st hs cs) [true,true,true] [.b b,.b c,.b d] w).2:=by intro _ _ _ _; kernel_rfl):Go P C c0 Q h s :=
 rZ false n hs cs [true,true,true] (λb c d h' _ e=>by rw [e rfl]; exact k b c d) ho hc hr
theorem oV (n:Nat) (hs:List Hint) (cs:List (Nat × Value × Value)) (k:∀ b h',Sees h h'->Go P C c0 Q h' (runZ P C c0 C.w0 n (s.st hs cs) [.b b])) (ho:owes P h hs:=by exact Oq) (hc:owesC cs:=by exact Oq)
  (hr:∀ b w,(eK P C c0 C.w0 true n (s.st hs cs) [true] [.b b] w).1=(eK P C c0 C.w0 true n (s.st hs cs) [true] [.b b] w).2:=by intro _ _; kernel_rfl):Go P C c0 Q h s :=
 rZ true n hs cs [true] (λb h' s' _=>k b h' s') ho hc hr
theorem gov2 (n:Nat) (hs:List Hint) (cs:List (Nat × Value × Value)) (k:∀ b c h',Sees h h'->Go P C c0 Q h' (runZ P C c0 C.w0 n (s.st hs cs) [.b b,.b c])) (ho:owes P h hs:=by exact Oq) (hc:owesC cs:=by exact Oq)
  (hr:∀ b c w,(eK P C c0 C.w0 true n (s.st hs cs) [true,true] [.b b,.b c] w).1=(eK P C c0 C.w0 true n (s.st hs cs) [true,true] [.b b,.b c] w).2:=by intro _ _ _; kernel_rfl):Go P C c0 Q h s :=
 rZ true n hs cs [true,true] (λb c h' s' _=>k b c h' s') ho hc hr
theorem gov3 (n:Nat) (hs:List Hint) (cs:List (Nat × Value × Value)) (k:∀ b c d h',Sees h h'->Go P C c0 Q h' (runZ P C c0 C.w0 n (s.st hs cs) [.b b,.b c,.b d])) (ho:owes P h hs:=by exact Oq) (hc:owesC cs:=by exact Oq)
  (hr:∀ b c d w,(eK P C c0 C.w0 true n (s.st hs cs) [true,true,true] [.b b,.b c,.b d] w).1=(eK P C c0 C.w0 true n (s.st hs cs) [true,true,true] [.b b,.b c,.b d] w).2:=by intro _ _ _ _; kernel_rfl):Go P C c0 Q h s :=
 rZ true n hs cs [true,true,true] (λb c d h' s' _=>k b c d h' s') ho hc hr
theorem goa0 (n:Nat) (hs:List Hint) (cs:List (Nat × Value × Value)) (k:∀ x h',Sees h h'->Go P C c0 Q h' (runZ P C c0 C.w0 n (s.st hs cs) [.v x])) (ho:owes P h hs:=by exact Oq) (hc:owesC cs:=by exact Oq)
  (hr:∀ x w,(eK P C c0 C.w0 true n (s.st hs cs) [false] [.v x] w).1=(eK P C c0 C.w0 true n (s.st hs cs) [false] [.v x] w).2:=by intro _ _; kernel_rfl):Go P C c0 Q h s :=
 rZ true n hs cs [false] (λx h' s' _=>k x h' s') ho hc hr
theorem jV {t:Bool} (ht:t=true) (k:Go P C c0 Q h (s.inn 0)) (hp:isCode s.p=true:=by kernel_rfl) (hs:((condOf (sub c0 (ppOf s.p))).bind (evE s.E))=some (.bool t):=by kernel_rfl):Go P C c0 Q h s :=
 g_code hp λa w hK=>x_true hK hs ht (k.go a w hK)
theorem tQ {t:Bool} (ht:t=false) (k:Go P C c0 Q h (s.inn 1)) (hp:isCode s.p=true:=by kernel_rfl) (hs:((condOf (sub c0 (ppOf s.p))).bind (evE s.E))=some (.bool t):=by kernel_rfl):Go P C c0 Q h s :=
 g_code hp λa w hK=>x_false hK hs ht (k.go a w hK)
theorem gV (d:Nat) {v v':Value} (hv:v=v') (k:Go P C c0 Q h (s.aE d v')) (hd:lookup s.E d=some v:=by kernel_rfl):Go P C c0 Q h s:=.mk λa w hK=>k.go a w (hK.rew d hv hd)
theorem qQ {b o:Nat} {cs:List Value} (c:Cells h b o cs) (k:Go P C c0 Q h (s.aF b o cs)):Go P C c0 Q h s:=.mk λa w hK=>k.go a w (hK.fact c)
theorem g_get {X:Prop} (f:∀ a w,K C s.E s.B s.F h a w->X) (k:X->Go P C c0 Q h s):Go P C c0 Q h s:=.mk λa w hK=>(k (f a w hK)).go a w hK
theorem oQ (i b o:Nat) (cs:List Value) (k:Cells h b o cs->Go P C c0 Q h s) (hF:s.F[i]?=some (b,o,cs):=by kernel_rfl):Go P C c0 Q h s:=.mk λa w hK=>(k (hK.f _ (Ej hF))).go a w hK
theorem g_drop (i:Nat) (k:Go P C c0 Q h (s.dB i)):Go P C c0 Q h s:=.mk λa w hK=>k.go a w (hK.drop i)
theorem cV (e:TypeId) (kk:Nat) (k:Go P C c0 Q h (s.aB (.row (.slice none 0 0) e kk []))):Go P C c0 Q h s:=.mk λa w hK=>k.go a w (hK.nilrow e kk)
theorem mem_sub {α:Type} {l m:List α} {n:Nat} (h:l.drop n=m):∀ x∈m,x∈l:=λx hx=>Ww (by rw [h]; exact hx)
theorem K.dropN {E:List (Nat × Value)} {B:List Ent} {F:List Fac} {a:Act} {w:World} (hK:K C E B F h a w):∀ n,K C E (B.drop n) F h a w
 | 0=>hK
 | n + 1=>by
  have:=(hK.dropN n).drop 0
  rwa [show (B.drop n).eraseIdx 0=B.drop (n + 1) from by rw [List.eraseIdx_zero,List.tail_drop]] at this
def Z.says (s:Z) (h:Vw) (h':Vw) (E:List (Nat × Value)) (B:List Ent) (F:List Fac):Prop :=
 h'=h/\([.ov (E.map λp=>lookup s.E p.1),.bs (s.B.drop (s.B.length - B.length)),.fs (s.F.drop (s.F.length - F.length))]:List Any)=[.ov (E.map λp=>some p.2),.bs B,.fs F]
theorem says_K {h':Vw} {E:List (Nat × Value)} {B:List Ent} {F:List Fac} {a:Act} {w:World} (hs:s.says h h' E B F) (hK:K C s.E s.B s.F h a w):K C E B F h' a w:=by
 obtain ⟨rfl,hs⟩:=hs;simp only [Qk,Any.ov.injEq,Any.bs.injEq,Any.fs.injEq,Iq] at hs;obtain ⟨h1,h2,h3⟩:=hs;have hK:=hK.dropN (s.B.length - B.length);exact ⟨hK.j.to h1 h2.symm,λx hx=>hK.f x (mem_sub h3 x hx)⟩
theorem wQ (E:List (Nat × Value)) (B:List Ent) (F:List Fac) (k:Go P C c0 Q h (s.is E B F)) (hE:s.says h h E B F:=by exact ⟨rfl,by kernel_rfl⟩):Go P C c0 Q h s:=.mk λa w hK=>k.go a w (says_K hE hK)
theorem mY {E E':List (Nat × Value)} {B B':List Ent} {F F':List Fac} (hB:B'=B) (hE:([.ov (E'.map λp=>lookup E p.1),.fs (F.drop (F.length - F'.length))]:List Any)=[.ov (E'.map λp=>some p.2),.fs F']:=by kernel_rfl):(s.is E B F).says h h E' B' F':=by
 subst hB;simp only [Qk,Any.ov.injEq,Any.fs.injEq,Iq] at hE;refine ⟨rfl,?_⟩;show ([.ov (E'.map λp=>lookup E p.1),.bs (B'.drop (B'.length - B'.length)),.fs (F.drop (F.length - F'.length))]:List Any)=_;rw [hE.1,hE.2,Cw,List.drop_zero]
theorem eV (v:Value) (hr:∀ w,(execOp (evD s.E) (s.op c0)).run P w=.ok (.value v) w) (k:Go P C c0 Q h (s.nx c0 v)) (hp:isOps s.p=true:=by kernel_rfl) (hk:mV C s.E (s.ops c0) (nnOf s.p) (s.d c0)=true:=by kernel_rfl):Go P C c0 Q h s :=
 g_ops hp λa w hK=>x_pure hK (s.d c0) v hk hr k.go
theorem g_purew (v:Value) (hr:∀ a w,K C s.E s.B s.F h a w->(execOp (evD s.E) (s.op c0)).run P w=.ok (.value v) w) (k:Go P C c0 Q h (s.nx c0 v)) (hp:isOps s.p=true:=by kernel_rfl) (hk:mV C s.E (s.ops c0) (nnOf s.p) (s.d c0)=true:=by kernel_rfl):Go P C c0 Q h s :=
 g_ops hp λa w hK=>x_purew hK (s.d c0) v hk (hr a w hK) k.go
def Z.calls (P:Program) (C:Fx) (c0:Code) (s:Z) (w:World):List Any:=.b (isOps s.p) :: callAt P C s.E (s.ops c0) (s.rest c0) (s.d c0) w
abbrev Z.callOk (P:Program) (C:Fx) (c0:Code) (s:Z) (f:FuncId) (args:Array Value):Prop:=∀ w,s.calls P C c0 w=[.b true,.b true,.r (.ok (.enter f args) w)]
theorem aK {f:FuncId} {args:Array Value} (hk:s.callOk P C c0 f args):isOps s.p=true/\∀ w,callAt P C s.E (fX c0 (ppOf s.p)) ((fX c0 (ppOf s.p)).toList.drop (nnOf s.p)) (s.d c0) w=[.b true,.r (.ok (.enter f args) w)]:=by
 refine ⟨?_,λw=>?_⟩
 ·have:=hk tZ
  simp only [Z.calls,Qk,Any.b.injEq] at this;exact this.1
 ·have:=hk w
  simp only [Z.calls,Qk] at this;exact this.2
theorem g_callJ {f:FuncId} {args:Array Value} {R:Value->Vw->Prop} (hc:∀ a w,K C s.E s.B s.F h a w->C0 P f args ⟨w,blk s.B++C.bad0⟩ R) (k:∀ v h',Sees h h'->R v h'->Go P C c0 Q h' (s.nx c0 v)) (hk:s.callOk P C c0 f args:=by intro _; kernel_rfl):Go P C c0 Q h s :=
 g_ops (aK hk).1 λa w hK=>x_call hK (s.d c0) (hc a w hK) (aK hk).2 λv h' a w s' r hK'=>(k v h' s' r).go a w hK'
theorem kQ {f:FuncId} {args:Array Value} {R:Value->Vw->Prop} (hc:∀ H,Sees h H->C0 P f args H R) (k:∀ v h',Sees h h'->R v h'->Go P C c0 Q h' (s.nx c0 v)) (hk:s.callOk P C c0 f args:=by intro _; kernel_rfl):Go P C c0 Q h s :=
 g_callJ (λ_ _ hK=>hc _ hK.j.sees) k hk
theorem mQ {f:FuncId} {args:Array Value} {b:Nat} {cs:List Value} {R:Value->List Value->Vw->Prop} (i:Nat) (hc:∀ a w,K C s.E s.B s.F h a w->C1 P f args ⟨w,blk s.B++C.bad0⟩ b cs R) (k:∀ v cs' h',Sees h h'->R v cs' h'->Go P C c0 Q h' ((s.nx c0 v).cB i (.box b cs'))) (hB:s.B[i]?=some (.box b cs):=by kernel_rfl) (hk:s.callOk P C c0 f args:=by intro _; kernel_rfl):Go P C c0 Q h s :=
 g_ops (aK hk).1 λa w hK=>x_call1 hK (s.d c0) i (hc a w hK) hB (aK hk).2 λv cs' h' a w s' r hK'=>(k v cs' h' s' r).go a w hK'
theorem lQ {f:FuncId} {args:Array Value} {b:Nat} {cs:List Value} {R:Value->List Value->Vw->Prop} (i:Nat) (hc:∀ H,Sees h H->C1 P f args H b cs R) (k:∀ v cs' h',Sees h h'->R v cs' h'->Go P C c0 Q h' ((s.nx c0 v).cB i (.box b cs'))) (hB:s.B[i]?=some (.box b cs):=by kernel_rfl) (hk:s.callOk P C c0 f args:=by intro _; kernel_rfl):Go P C c0 Q h s :=
 mQ i (λ_ _ hK=>hc _ hK.j.sees) k hB hk
theorem g_callq {f:FuncId} {args:Array Value} {v:Value} (hc:∀ a w,K C s.E s.B s.F h a w->C0 P f args ⟨w,[]⟩ (λr _=>r=v)) (k:∀ h',Sees h h'->Go P C c0 Q h' (s.nx c0 v)) (hk:s.callOk P C c0 f args:=by intro _; kernel_rfl):Go P C c0 Q h s :=
 g_ops (aK hk).1 λa w hK=>x_callq hK (s.d c0) (hc a w hK) (aK hk).2 λh' a w s' hK'=>(k h' s').go a w hK'
theorem g_callset {f:FuncId} {args:Array Value} {e:TypeId} {g m cap kk:Nat} {l l':List (List Value)} (i:Nat) (hc:CSet P f args C.base g m cap e kk l l') (k:Go P C c0 Q h ((s.nx c0 (.tuple #[])).cB i (.row (.slice (some ⟨g,0,none⟩) m cap) e kk l')))
  (hB:s.B[i]?=some (.row (.slice (some ⟨g,0,none⟩) m cap) e kk l):=by kernel_rfl) (hk:s.callOk P C c0 f args:=by intro _; kernel_rfl):Go P C c0 Q h s :=
 g_ops (aK hk).1 λa w hK=>x_callset hK (s.d c0) i hB hc (aK hk).2 k.go
theorem g_rowget (i kx fo:Nat) {g m cap kk:Nat} {e:TypeId} {l:List (List Value)} {r:List Value} {t:TypeId} {x:Operand} {v:Value} (hr:l[kx]?=some r) (k:Go P C c0 Q h (s.nx c0 v)) (hp:isOps s.p=true:=by kernel_rfl) (hk:mV C s.E (s.ops c0) (nnOf s.p) (s.d c0)=true:=by kernel_rfl) (hop:(s.op c0).op=.load t x:=by kernel_rfl)
  (hB:s.B[i]?=some (.row (.slice (some ⟨g,0,none⟩) m cap) e kk l):=by kernel_rfl) (hx:evE s.E x=some (.pointer (some ⟨g,0 + kx * kk + fo,none⟩)):=by kernel_rfl) (hv:dW P t r fo=some v:=by kernel_rfl):Go P C c0 Q h s :=
 g_ops hp λa w hK=>x_rowget hK (s.d c0) i kx fo hk hop hB hx hr hv k.go
theorem g_rowset (i kx fo:Nat) {g m cap kk:Nat} {e:TypeId} {l:List (List Value)} {r r':List Value} {t:TypeId} {x y:Operand} {v:Value} (hr:l[kx]?=some r) (k:Go P C c0 Q h (s.nx0.cB i (.row (.slice (some ⟨g,0,none⟩) m cap) e kk (l.set kx r')))) (hp:isOps s.p=true:=by kernel_rfl) (hk:goodOp0 s.E (s.ops c0) (nnOf s.p)=true:=by kernel_rfl) (hop:(s.op c0).op=.store t x y:=by kernel_rfl)
  (hB:s.B[i]?=some (.row (.slice (some ⟨g,0,none⟩) m cap) e kk l):=by kernel_rfl) (hx:evE s.E x=some (.pointer (some ⟨g,0 + kx * kk + fo,none⟩)):=by kernel_rfl) (hy:evE s.E y=some v:=by kernel_rfl) (hv:wY P t r fo v=true:=by kernel_rfl) (hr':uX r fo v.cells.toList=r':=by kernel_rfl):Go P C c0 Q h s:=by
 subst hr';exact g_ops hp λa w hK=>x_rowset hK i kx fo hk hop hB hx hy hr hv k.go
def mP (c0:Code) (s:Z):TypeId × Operand × Operand × Operand:=(setOp (s.op c0).op).getD (0,.const undef,.const undef,.const undef)
def mL (c0:Code) (s:Z):TypeId × Operand × Operand × Bool:=(lookOp (s.op c0).op).getD (0,.const undef,.const undef,false)
def mapK (P:Program) (t:TypeId):TypeId × TypeId:=match P.underlying t with
 | some (.map k e)=>(k,e)
 | _=>(0,0)
theorem mapK_eq {t:TypeId} (h:(match P.underlying t with | some (.map _ _)=>true | _=>false)=true):P.underlying t=some (.map (mapK P t).1 (mapK P t).2):=by
 unfold mapK
 split at h
 ·rename_i k e hq; rw [hq]
 ·cases h
def Z.mset (c0:Code) (s:Z) (i b:Nat) (es:List (Value × Value)) (key:Value):Z:=⟨.ops (ppOf s.p) (nnOf s.p + 1),s.ks,s.E,s.B.set i (.map b (es++[(key,evD s.E (mP c0 s).2.2.2)])),s.F⟩
def mapOkZ (P:Program) (c0:Code) (s:Z) (i b:Nat) (es:List (Value × Value)) (td:TypeDesc) (key:Value):List Any :=
 [.b (isOps s.p && goodOp0 s.E (s.ops c0) (nnOf s.p) && (setOp (s.op c0).op).isSome && (match P.underlying (mP c0 s).1 with | some (.map _ _)=>true | _=>false) && keyOk td key && (evE s.E (mP c0 s).2.2.2).isSome),.bs ((s.B[i]?).toList),.ov [evE s.E (mP c0 s).2.1,evE s.E (mP c0 s).2.2.1]]
theorem aV (i b:Nat) {es:List (Value × Value)} {td:TypeDesc} {key:Value} (hf:mfind td key es=some none) (k:Go P C c0 Q h (s.mset c0 i b es key)) (hc:mapOkZ P c0 s i b es td key=[.b true,.bs [.map b es],.ov [some (.map (some b)),some key]]:=by kernel_rfl)
  (htd:P.underlying (mapK P (mP c0 s).1).1=some td:=by kernel_rfl):Go P C c0 Q h s:=by
 simp only [mapOkZ,Qk,Any.b.injEq,Any.bs.injEq,Any.ov.injEq,Uj,Iq] at hc;obtain ⟨⟨⟨⟨⟨⟨c1,c2⟩,c3⟩,c4⟩,c5⟩,c6⟩,hB,hm,hk⟩:=hc;have hB:s.B[i]?=some (.map b es):=by
  cases e:s.B[i]? with
  | none=>rw [e] at hB; cases hB
  | some x=>rw [e] at hB; simp only [Xw,Qk,Iq] at hB; rw [hB]
 obtain ⟨v,hv⟩:=Kx.1 c6;have hop:setOp (s.op c0).op=some ((mP c0 s).1,(mP c0 s).2.1,(mP c0 s).2.2.1,(mP c0 s).2.2.2):=by
  obtain ⟨q,hq⟩:=Kx.1 c3;unfold mP;rw [hq]; rfl
 refine g_ops c1 λa w hK=>x_mapset hK i c2 hop hB hm hk hv (mapK_eq c4) htd c5 hf ?_;have e:evD s.E (mP c0 s).2.2.2=v:=by simp [evD,hv]
 rw [<- e];exact k.go
theorem g_mapmake (k:∀ b,Go P C c0 Q h ((s.nx c0 (.map (some b))).aB (.map b []))) (hp:isOps s.p=true:=by kernel_rfl) (hk:mV C s.E (s.ops c0) (nnOf s.p) (s.d c0)=true:=by kernel_rfl) (hm:makeMapOp (s.op c0).op=true:=by kernel_rfl):Go P C c0 Q h s :=
 g_ops hp λa w hK=>x_mapmake hK (s.d c0) hk hm λb a w hK'=>(k b).go a w hK'
def lookOkZ (P:Program) (C:Fx) (c0:Code) (s:Z) (b:Nat) (td:TypeDesc) (key:Value):List Any :=
 [.b (isOps s.p && mV C s.E (s.ops c0) (nnOf s.p) (s.d c0) && (lookOp (s.op c0).op).isSome && (match P.underlying (mL c0 s).1 with | some (.map _ _)=>true | _=>false) && keyOk td key),.ov [evE s.E (mL c0 s).2.1,evE s.E (mL c0 s).2.2.1]]
theorem zQ (b:Nat) {es:List (Value × Value)} {td:TypeDesc} {key:Value} {r:Option (Nat × Value)} (z v:Value) (hb:∀ a w,K C s.E s.B s.F h a w->w.heap[b]?=some (iW es)) (hf:mfind td key es=some r) (k:Go P C c0 Q h (s.nx c0 v)) (hc:lookOkZ P C c0 s b td key=[.b true,.ov [some (.map (some b)),some key]]:=by kernel_rfl)
  (htd:P.underlying (mapK P (mL c0 s).1).1=some td:=by kernel_rfl) (hz:∀ w,(zeroValue (mapK P (mL c0 s).1).2).run P w=.ok z w:=by intro _; kernel_rfl) (hv:lookV (mL c0 s).2.2.2 r z=v:=by kernel_rfl):Go P C c0 Q h s:=by
 simp only [lookOkZ,Qk,Any.b.injEq,Any.ov.injEq,Uj,Iq] at hc;obtain ⟨⟨⟨⟨⟨c1,c2⟩,c3⟩,c4⟩,c5⟩,hm,hk⟩:=hc;have hop:lookOp (s.op c0).op=some ((mL c0 s).1,(mL c0 s).2.1,(mL c0 s).2.2.1,(mL c0 s).2.2.2):=by
  obtain ⟨q,hq⟩:=Kx.1 c3;unfold mL;rw [hq]; rfl
 exact g_ops c1 λa w hK=>x_mapget hK (s.d c0) c2 hop (hb a w hK) hm hk (mapK_eq c4) htd c5 hf hz hv k.go
theorem g_mapget (i b:Nat) {es:List (Value × Value)} {td:TypeDesc} {key:Value} {r:Option (Nat × Value)} (z v:Value) (hf:mfind td key es=some r) (k:Go P C c0 Q h (s.nx c0 v)) (hB:s.B[i]?=some (.map b es):=by kernel_rfl) (hc:lookOkZ P C c0 s b td key=[.b true,.ov [some (.map (some b)),some key]]:=by kernel_rfl)
  (htd:P.underlying (mapK P (mL c0 s).1).1=some td:=by kernel_rfl) (hz:∀ w,(zeroValue (mapK P (mL c0 s).1).2).run P w=.ok z w:=by intro _; kernel_rfl) (hv:lookV (mL c0 s).2.2.2 r z=v:=by kernel_rfl):Go P C c0 Q h s :=
 zQ b z v (λa w hK=>hK.map i hB) hf k hc htd hz hv
theorem g_maplit (t:TypeId) (L:List MO) (k:∀ b es,(∀ k v,(k,v)∈es↔MO.ins k v∈L)->(es.map (·.1)).Nodup->Go P C c0 Q h ⟨.out .normal,s.ks,L.filterMap (MO.out b)++s.E,.map b (qV es) :: s.B,s.F⟩) {kt et:TypeId} (ht:P.underlying t=some (.map kt et)) (htd:P.underlying kt=some (.int .i64)) (hm:P.follows .mixedOrders=true:=by kernel_rfl) (hp:isCode s.p=true:=by kernel_rfl)
  (hst:(match drawnOf (sub c0 (ppOf s.p)) with | some ops=>Nat.beq ops.size L.length && mlOk L | none=>false)=true:=by kernel_rfl) (hc:∀ b w,(mlAll P t L s.E C.N (s.ops c0) b w 0 L).map (·.1)=(mlAll P t L s.E C.N (s.ops c0) b w 0 L).map (·.2):=by intro _ _; kernel_rfl):Go P C c0 Q h s :=
 g_code hp λa w hK=>x_maplit hm hK t ht htd L hst hc λb es a w hK' h1 h2=>(k b es h1 h2).go a w hK'
theorem g_make1 {t e:TypeId} {z:Value} {x:Operand} {by_ m:Nat} (hop:(s.op c0).op=.makeSlice t x x) (ht:P.underlying t=some (.slice e)) (hi:(P.info? e).map (λi=>(i.zero,i.size,i.bytes))=some (some z,1,by_)) (hz:z.cells=#[z]) (hcm:m<=1000000) (hb:by_ * m<=281474976710656) (h63:m<=maxLen)
  (k:∀ b,Go P C c0 Q h ((s.nx c0 (.slice (some ⟨b,0,none⟩) m m)).aB (.row (.slice (some ⟨b,0,none⟩) m m) e 1 (List.replicate m [z])))) (hp:isOps s.p=true:=by kernel_rfl) (hk:mV C s.E (s.ops c0) (nnOf s.p) (s.d c0)=true:=by kernel_rfl) (hx:evE s.E x=some (.int .i64 (m:Int)):=by kernel_rfl):Go P C c0 Q h s :=
 g_ops hp λa w hK=>x_make1 hK (s.d c0) hk hop hx ht hi hz hcm hb h63 λb a w hK'=>(k b).go a w hK'
theorem g_frozen (i:Nat) {v:Value} {e:TypeId} {kk:Nat} {l:List (List Value)} (hout:∀ a w,K C s.E s.B s.F h a w->∀ b,v.ownBlock=some b->b ∉ C.bad0) (k:∀ h',Sees h h'->RS h' kk v l->Go P C c0 Q h' (s.dB i)) (hB:s.B[i]?=some (.row v e kk l):=by kernel_rfl):Go P C c0 Q h s:=.mk λa w hK=>by
 obtain ⟨h',s',r,hK'⟩:=hK.frozen i hB (hout a w hK);exact (k h' s' r).go a w hK'
theorem vQ (i:Nat) {v:Value} {e:TypeId} {kk:Nat} {l:List (List Value)} (k:∀ h',Sees h h'->RS h' kk v l->Go P C c0 Q h' (s.dB i)) (hB:s.B[i]?=some (.row v e kk l):=by kernel_rfl) (hC:C.wr=[]:=by kernel_rfl):Go P C c0 Q h s :=
 g_frozen i (λa w hK=>hK.j.out0 i hB hC) k hB
theorem uQ (i:Nat) {v:Value} {e:TypeId} {kk:Nat} {l:List (List Value)} (k:∀ A c,v=.slice A l.length c->l.length<=c->c<=maxLen->Go P C c0 Q h s) (hB:s.B[i]?=some (.row v e kk l):=by kernel_rfl):Go P C c0 Q h s:=.mk λa w hK=>by
 obtain ⟨A,c,e1,e2,e3⟩:=hK.form i hB;exact (k A c e1 e2 e3).go a w hK
theorem xQ {I:Act->World->Prop} {ks:List Kt} (k:Go P C c0 Q h (s.on ks)) (hp:isOut s.p=true:=by kernel_rfl) (hne:isNorm (exOf s.p)=false:=by kernel_rfl) (hk:s.ks=[]:=by kernel_rfl):Go P C c0 (Exit.then I (post P c0 Q ks)) h s:=.mk λa w hK=>by
 have:=k.go a w hK
 rw [hk];rw [isOut_eq hp];have e:(s.on ks).p=.out (exOf s.p):=isOut_eq hp;rw [e] at this;exact x_leave hne this
abbrev At:=Vw->List (Nat × Value)->List Ent->List Fac->Prop
def Met (I:At->Prop) (h:Vw) (s:Z):Prop:=∀ X:At,(∀ h' E B F,s.says h h' E B F->X h' E B F)->I X
def LoopQ {ι:Type} (I:ι->At->Prop) (m:ι->Nat) (C:Fx) (i:ι) (Q:Exit->Act->World->Prop):Exit->Act->World->Prop :=
 Exit.then (λa w=>∃ i',I i' (λh E B F=>K C E B F h a w)/\m i' < m i) Q
theorem dV {E:List (Nat × Value)} {B:List Ent} {F:List Fac} {p:Pt} {ks:List Kt} {a:Act} {w:World} (hK:K C E B F h a w) (k:Go P C c0 Q h ⟨p,ks,E,B,F⟩):Goal P c0 Q p ks a w:=k.go a w hK
def Z.at_ (s:Z):List Any:=[.pt s.p s.ks]
theorem yQ (p:List Nat) (ks:List Kt) {ι:Type} (I:ι->At->Prop) (m:ι->Nat) (i0:ι) (h0:Met (I i0) h s) (round:∀ i a w,I i (λh E B F=>K C E B F h a w)->Goal P c0 (LoopQ I m C i (post P c0 Q ks)) (.code (0 :: p)) [] a w)
  (hs:s.at_=[.pt (.code p) ks]:=by kernel_rfl) (hl:loopOf (sub c0 p)=true:=by kernel_rfl):Go P C c0 Q h s:=.mk λa w hK=>by
 simp only [Z.at_,Qk,Any.pt.injEq,Iq] at hs;obtain ⟨h1,h2⟩:=hs;rw [h1,h2];exact x_loop (λi a w=>I i (λh E B F=>K C E B F h a w)) m i0 hl (h0 _ λ_ _ _ _ q=>says_K q hK) round
theorem g_round {ι:Type} {I:ι->At->Prop} {m:ι->Nat} {i:ι} {Q0:Exit->Act->World->Prop} (i':ι) (h':Met (I i') h s) (hm:m i' < m i) (hs:s.at_=[.pt (.out .normal) []]:=by kernel_rfl):Go P C c0 (LoopQ I m C i Q0) h s:=.mk λa w hK=>by
 simp only [Z.at_,Qk,Any.pt.injEq,Iq] at hs;obtain ⟨h1,h2⟩:=hs;rw [h1,h2];exact x_round ⟨i',h' _ λ_ _ _ _ q=>says_K q hK,hm⟩
theorem iV {ι:Type} {I:ι->At->Prop} {m:ι->Nat} {i:ι} {Q0:Exit->Act->World->Prop} (i':ι) (h':Met (I i') h s) (hs:s.at_=[.pt (.out .normal) []]:=by kernel_rfl) (hm:m i' < m i:=by omega):Go P C c0 (LoopQ I m C i Q0) h s:=g_round i' h' hm hs
def resZ (P:Program) (s:Z):List ResultVar->List Nat->List Value->List (Any × Any)
 | [],_,[]=>[]
 | .tmp t :: rs,ix,v :: vs=>(.ov [lookup s.E t],.ov [some v]) :: resZ P s rs ix vs
 | .cell p t :: rs,i :: ix,v :: vs=>match s.B[i]? with
  | some (.box b cs)=>(.ov [lookup s.E p,dW P t cs 0],.ov [some (.pointer (some ⟨b,0,none⟩)),some v]) :: resZ P s rs ix vs
  | _=>[(.bad,.b true)]
 | _,_,_=>[(.bad,.b true)]
def isEnd:Pt->Bool
 | .out .normal=>true
 | .out .ret=>true
 | _=>false
def boxesZ (ids:List Nat) (css:List (List Value)):List Ent:=List.zipWith Ent.box ids css
def endZ (P:Program) (s:Z) (rs:List ResultVar) (ix:List Nat) (vs:List Value) (ids:List Nat) (css:List (List Value)):List (Any × Any) :=
 (.b (isEnd s.p && s.ks.isEmpty && Nat.beq ids.length css.length),.b true) :: (.bs (s.B.drop (s.B.length - ids.length)),.bs (boxesZ ids css)) :: resZ P s rs ix vs
theorem resZ_res {a:Act} {w:World} (hK:K C s.E s.B s.F h a w):∀ {rs:List ResultVar} {ix:List Nat} {vs:List Value},(∀ e∈resZ P s rs ix vs,e.1=e.2)->Res P a w rs vs
 | [],_,[],_=>.nil
 | .tmp t :: rs,ix,v :: vs,hc=>by
  have h1:=hc _ (Zk ..);simp only [Any.ov.injEq,Qk,Iq] at h1;exact .rtmp hK.j h1 (resZ_res hK λe he=>hc e (Gk _ he))
 | .cell p t :: rs,i :: ix,v :: vs,hc=>by
  simp only [resZ] at hc
  split at hc
  ·rename_i b cs hB;have h1:=hc _ (Zk ..);simp only [Any.ov.injEq,Qk,Iq] at h1;exact .rcell hK.j i hB h1.1 h1.2 (resZ_res hK λe he=>hc e (Gk _ he))
  ·have:=hc _ (Pj.2 rfl)
   cases this
 | [],_,_ :: _,hc=>by have:=hc _ (Pj.2 rfl); cases this
 | .tmp t :: rs,ix,[],hc=>by have:=hc _ (Pj.2 rfl); cases this
 | .cell p t :: rs,[],[],hc=>by have:=hc _ (Pj.2 rfl); cases this
 | .cell p t :: rs,[],_ :: _,hc=>by have:=hc _ (Pj.2 rfl); cases this
 | .cell p t :: rs,_ :: _,[],hc=>by have:=hc _ (Pj.2 rfl); cases this
def EndQ (P:Program) (C:Fx) (c0:Code) (Q:Exit->Act->World->Prop) (fn:Func) (ids:List Nat) (R:Value->List (List Value)->Vw->Prop):Prop :=
 ∀ {s:Z} {h:Vw} (vs:List Value) (ix:List Nat) (css:List (List Value)),(endZ P s fn.results.toList ix vs ids css).map (·.1)=(endZ P s fn.results.toList ix vs ids css).map (·.2)->(∀ a w,K C s.E s.B s.F h a w->R (pack vs) css ⟨w,C.bad0⟩)->Go P C c0 Q h s
theorem map_pair {l:List (Any × Any)} (h:l.map (·.1)=l.map (·.2)):∀ e∈l,e.1=e.2:=by
 induction l with
 | nil=>intro e he; cases he
 | cons y l ih =>
  simp only [Ik,Qk] at h;intro e he;rcases Tj.1 he with rfl | he
  ·exact h.1
  ·exact ih h.2 e he
theorem EndQ.to {fn:Func} {ids:List Nat} {R:Value->List (List Value)->Vw->Prop} (hQ:EndQ P C c0 Q fn ids R) (vs:List Value) (k:∀ H,Sees h H->R (pack vs) [] H) (ix:List Nat:=[]) (hc:(endZ P s fn.results.toList ix vs ids []).map (·.1)=(endZ P s fn.results.toList ix vs ids []).map (·.2):=by kernel_rfl):Go P C c0 Q h s :=
 hQ vs ix [] hc λa w hK=>k _ hK.j.out
theorem EndQ.toB {fn:Func} {ids:List Nat} {R:Value->List (List Value)->Vw->Prop} (hQ:EndQ P C c0 Q fn ids R) (vs:List Value) (css:List (List Value)) (k:∀ H,Sees h H->R (pack vs) css H) (ix:List Nat:=[]) (hc:(endZ P s fn.results.toList ix vs ids css).map (·.1)=(endZ P s fn.results.toList ix vs ids css).map (·.2):=by kernel_rfl):Go P C c0 Q h s :=
 hQ vs ix css hc λa w hK=>k _ hK.j.out
theorem EndQ.toJ {fn:Func} {ids:List Nat} {R:Value->List (List Value)->Vw->Prop} (hQ:EndQ P C c0 Q fn ids R) (vs:List Value) (css:List (List Value)) (k:∀ a w,K C s.E s.B s.F h a w->R (pack vs) css ⟨w,C.bad0⟩) (ix:List Nat:=[]) (hc:(endZ P s fn.results.toList ix vs ids css).map (·.1)=(endZ P s fn.results.toList ix vs ids css).map (·.2):=by kernel_rfl):Go P C c0 Q h s :=
 hQ vs ix css hc k
theorem zip_ids:∀ {ids:List Nat} {css:List (List Value)},ids.length=css.length->(ids.zip css).map (·.1)=ids/\(ids.zip css).map (·.2)=css/\boxesZ ids css=(ids.zip css).map (λx=>.box x.1 x.2)
 | [],[],_=>⟨rfl,rfl,rfl⟩
 | x :: l,y :: m,h=>by
  obtain ⟨h1,h2,h3⟩:=zip_ids (ids:=l) (css:=m) (by simpa using h);exact ⟨by simp [h1],by simp [h2],by unfold boxesZ at h3 ⊢; simp [h3]⟩
theorem pQ {f:FuncId} {fn:Func} {args:Array Value} {Bi:List (Nat × List Value)} {R:Value->List (List Value)->Vw->Prop} (hf:P.funcs[f]?=some fn)
  (body:BoxesOk h.w Bi->(∀ x∈Bi,x.1∈h.bad)->∀ (Q:Exit->Act->World->Prop),EndQ P ⟨fn.ntmps,h.w,h.bad,Bi.map (·.1),[]⟩ (fn.body.getD .skip) Q fn (Bi.map (·.1)) R->Go P ⟨fn.ntmps,h.w,h.bad,Bi.map (·.1),[]⟩ (fn.body.getD .skip) Q h ⟨.code [],[],argE 0 args.toList,Bi.map (λx=>.box x.1 x.2),[]⟩)
  (hb:fn.body=some (fn.body.getD .skip):=by kernel_rfl) (hle:Nat.ble args.size fn.ntmps=true:=by kernel_rfl):Con P f args h Bi R:=by
 refine x_con hf hb rfl hle λb1 b2 Q hQ a w hK=>(body b1 b2 Q (λ{s h'} vs ix css hc hR=>.mk λa w hK'=>?_)).go a w hK;have hc:=map_pair hc;have c1:=hc _ (Zk ..);have c2:=hc _ (Gk _ (Zk ..));have c3:∀ e∈resZ P s fn.results.toList ix vs,e.1=e.2:=λe he=>hc e (Gk _ (Gk _ he));simp only [Any.b.injEq,Uj] at c1;simp only [Any.bs.injEq] at c2;obtain ⟨⟨e1,e2⟩,e3⟩:=c1;obtain ⟨z1,z2,z3⟩:=zip_ids (Zj e3);have hks:s.ks=[]:=by simpa using e2
 have hB:s.B=s.B.take (s.B.length - (Bi.map (·.1)).length)++((Bi.map (·.1)).zip css).map (λx=>Ent.box x.1 x.2):=by rw [<- z3,<- c2,Mw]
 have q:=hQ vs _ ((Bi.map (·.1)).zip css) hK' (resZ_res hK' c3) hB z1 (by rw [z2]; exact hR a w hK');rw [hks];generalize s.p=pt at *;unfold isEnd at e1
 split at e1
 ·exact q.2
 ·exact q.1
 ·cases e1
end
inductive RG where
 | pu | ld (e off:Nat) | lf (j off:Nat) | st (e off:Nat) | al (e:Nat) | ps
 | v (f:Gh->Value)
 | f (f:Gh->Value) (q:Gh->Vw->Prop)
 | e (f:Gh->Value) (j:Nat) (x:Gh->Ent)
 | ef (f:Gh->Value) (j:Nat) (x:Gh->Ent) (q:Gh->Vw->Prop)
 | s (j:Nat) (x:Gh->Ent)
 | m (f:Gh->Value) (l:List (Nat × (Gh->Ent)))
def RG.rh:RG->RH
 | .pu=>.pu
 | .ld j o=>.ld j o
 | .lf j o=>.lf j o
 | .st j o=>.st j o
 | .al j=>.al j
 | .ps=>.ps
 | _=>.cl
def fOf:Nat->List RG->List (Nat × (Gh->Vw->Prop))
 | _,[]=>[]
 | i,.f _ q :: l=>(i,q) :: fOf (i + 1) l
 | i,.ef _ _ _ q :: l=>(i,q) :: fOf (i + 1) l
 | i,_ :: l=>fOf (i + 1) l
def MonoF (q:Gh->Vw->Prop):Prop:=∀ x h h',Sees h h'->q x h->q x h'
def MonoG:List RG->Prop
 | []=>True
 | .f _ q :: l=>MonoF q/\MonoG l
 | .ef _ _ _ q :: l=>MonoF q/\MonoG l
 | _ :: l=>MonoG l
def FactsG (x:Gh) (h:Vw):List RG->Prop
 | []=>True
 | .f _ q :: l=>q x h/\FactsG x h l
 | .ef _ _ _ q :: l=>q x h/\FactsG x h l
 | _ :: l=>FactsG x h l
theorem monoG : ∀ {l : List RG} {i : Nat}, MonoG l -> ∀ q ∈ fOf i l, ∀ x h h', Sees h h' -> q.2 x h -> q.2 x h'
  | [], _, _, q, hq => by cases hq
  | r :: l, i, hm, q, hq => by
    cases r <;> first
      | exact monoG (l := l) (i := i + 1) hm q hq
      | (rcases Tj.1 hq with rfl | hq
         · exact hm.1
         · exact monoG (l := l) (i := i + 1) hm.2 q hq)
theorem factsG {x:Gh} {h:Vw}:∀ {l:List RG} {i:Nat},(∀ q∈fOf i l,q.2 x h)->FactsG x h l
 | [],_,_=>trivial
 | r :: l,i,hq=>by
  cases r <;> first
   | exact factsG (l:=l) (i:=i + 1) hq
   | exact ⟨hq _ (Zk ..),factsG (l:=l) (i:=i + 1) λq h=>hq q (Gk _ h)⟩
structure RM where
 T:List (Nat × Nat × (Gh->Value))
 G:List Gent
def envR (E:List (Nat × Value)) (T:List (Nat × Nat × (Gh->Value))) (x:Gh):List (Nat × Value):=T.map (λt=>(t.2.1,t.2.2 x))++E
def verAt:List Gent->Nat->Nat × (Gh->Ent)->List Gent
 | [],_,_=>[]
 | g :: l,0,p=>⟨g.start,g.vers++[p]⟩ :: l
 | g :: l,e + 1,p=>g :: verAt l e p
def lastG (x:Gh):List (Nat × (Gh->Ent))->Option Ent->Option Ent
 | [],r=>r
 | p :: l,_=>lastG x l (some (p.2 x))
def nowG (G:List Gent) (e:Nat) (x:Gh):Option Ent:=match G[e]? with
 | some g=>lastG x g.vers g.start
 | none=>none
def vOp (P:Program) (u:World) (E:List (Nat × Value)) (o:Oper):Value:=match (execOp (evD E) o).run P u with
 | .ok (.value v) _=>v
 | _=>undef
def facC (KF:List Fac) (j:Nat):List Value:=match KF[j]? with
 | some f=>f.2.2
 | none=>[]
def mkOp (P:Program) (u:World) (E:List (Nat × Value)) (KF:List Fac) (i:Nat) (o:Oper) (m:RM) (r:RG):RM :=
 let d:=match o.dst with | some d=>d | none=>0
 match r with
 | .pu=>⟨(i,d,λx=>vOp P u (envR E m.T x) o) :: m.T,m.G⟩
 | .ps=>⟨(i,d,λ_=>undef) :: m.T,m.G⟩
 | .ld e off=>⟨(i,d,λx=>(dW P (opT o.op) (boxC (nowG m.G e x)) off).getD undef) :: m.T,m.G⟩
 | .lf j off=>⟨(i,d,λ_=>(dW P (opT o.op) (facC KF j) off).getD undef) :: m.T,m.G⟩
 | .st e off=>⟨m.T,verAt m.G e (i,λx=>.box (boxB (nowG m.G e x)) (uX (boxC (nowG m.G e x)) off (evD (envR E m.T x) (opY o.op)).cells.toList))⟩
 | .al e=>⟨(i,d,λx=>.pointer (some ⟨uJ (x i),0,none⟩)) :: m.T,verAt m.G e (i,λx=>.box (uJ (x i)) (cellsMade P (envR E m.T x) o))⟩
 | .v f=>⟨(i,d,f) :: m.T,m.G⟩
 | .f f _=>⟨(i,d,f) :: m.T,m.G⟩
 | .e f j x=>⟨(i,d,f) :: m.T,verAt m.G j (i,x)⟩
 | .ef f j x _=>⟨(i,d,f) :: m.T,verAt m.G j (i,x)⟩
 | .s j x=>⟨m.T,verAt m.G j (i,x)⟩
 | .m f l=>⟨(i,d,f) :: m.T,l.foldl (λG p=>verAt G p.1 (i,p.2)) m.G⟩
def mkAll (P:Program) (u:World) (E:List (Nat × Value)) (KF:List Fac):Nat->List Oper->List RG->RM->RM
 | i,o :: os,r :: rs,m=>mkAll P u E KF (i + 1) os rs (mkOp P u E KF i o m r)
 | _,_,_,m=>m
def ancM:List Oper->List Nat->List Nat
 | [],acc=>acc
 | o :: l,acc=>ancM l (acc++[(dirs o).foldl (λa k=>Nat.lor (Nat.lor a (Nat.shiftLeft 1 k)) (acc.getD k 0)) 0])
def bitsOf (n m:Nat):List Nat:=(List.range n).filter λk=>Nat.beq (Nat.land (Nat.shiftRight m k) 1) 1
def mkR (P:Program) (C:Fx) (h:Vw) (s:Z) (ops:Array Oper) (nal:Nat) (l:List RG):Reg :=
 let m:=mkAll P C.w0 s.E s.F 0 ops.toList l ⟨[],List.replicate nal ⟨none,[]⟩++s.B.map λe=>⟨some e,[]⟩⟩
 ⟨C,m.T.reverse,s.E,m.G,fOf 0 l,(ancM ops.toList []).map (bitsOf ops.size),h⟩
def GN (R:Reg) (j:Nat):Gent:=R.G.getD j ⟨none,[]⟩
def AllG:List (Nat × Bool)->(List (Nat × Value)->Prop)->Prop
 | [],q=>q []
 | (i,true) :: l,q=>∀ b:Nat,AllG l λr=>q ((i,.pointer (some ⟨b,0,none⟩)) :: r)
 | (i,false) :: l,q=>∀ u:Value,AllG l λr=>q ((i,u) :: r)
def projG (x:Gh):List (Nat × Bool)->List (Nat × Value)
 | []=>[]
 | (i,true) :: l=>(i,.pointer (some ⟨uJ (x i),0,none⟩)) :: projG x l
 | (i,false) :: l=>(i,x i) :: projG x l
theorem AllG.at_ {x:Gh}:∀ {l:List (Nat × Bool)} {q:List (Nat × Value)->Prop},AllG l q->q (projG x l)
 | [],_,h=>h
 | (i,true) :: _,q,h=>AllG.at_ (q:=λr=>q ((i,.pointer (some ⟨uJ (x i),0,none⟩)) :: r)) (h (uJ (x i)))
 | (i,false) :: _,q,h=>AllG.at_ (q:=λr=>q ((i,x i) :: r)) (h (x i))
def gx (l:List (Nat × Value)):Gh:=λj=>(lookup l j).getD undef
def Z.reg (s:Z) (R:Reg) (n:Nat) (x:Gh):Z:=⟨.out .normal,s.ks,R.T.map (λt=>(t.2.1,t.2.2 x))++R.E,R.G.filterMap (iK (List.range n) x),s.F⟩
def allR (R:Reg) (n:Nat) (l:List RG) (x:Gh):List An:=[.vs (R.T.map λt=>t.2.2 x),.es [R.G.filterMap (iK (List.range n) x)],.ps ((fOf 0 l).map λp=>p.2 x)]
def regOk (c0:Code) (s:Z) (R:Reg) (n:Nat) (l:List RH):List Any:=[.b (isCode s.p),.b (match drawnOf (sub c0 (ppOf s.p)) with | some ops=>Nat.beq ops.size n && Nat.beq l.length n && dK R && cK R ops && (R.G.all λg=>g.vers.all λp=>Nat.blt p.1 n) && (R.T.all λt=>Nat.blt t.1 n) && (R.F.all λt=>Nat.blt t.1 n) | none=>false),.bs (R.G.filterMap (·.start))]
section
variable {P:Program} {C:Fx} {c0:Code} {Q:Exit->Act->World->Prop} {h:Vw} {s:Z}
theorem fV (n nal:Nat) (l:List RG) (gens:List (Nat × Bool)) (mono:MonoG l) (told:let R:=mkR P C h s (s.ops c0) nal l; dK R=true->cK R (s.ops c0)=true->(∀ q∈R.F,∀ x h h',Sees h h'->q.2 x h->q.2 x h')->Told P (s.ops c0) (post P c0 Q s.ks) R 0 (l.map RG.rh))
  (k:AllG gens λr=>∀ h',Sees h h'->FactsG (gx r) h' l->Go P C c0 Q h' (s.reg (mkR P C h s (s.ops c0) nal l) n (gx r)))
  (hm:P.follows .mixedOrders=true:=by kernel_rfl)
  (hst:regOk c0 s (mkR P C h s (s.ops c0) nal l) n (l.map RG.rh)=[.b true,.b true,.bs s.B]:=by kernel_rfl)
  (hc:∀ x v w,(chkAll P (mkR P C h s (s.ops c0) nal l) (s.ops c0) s.F x v w 0 (l.map RG.rh)).map (·.1)=(chkAll P (mkR P C h s (s.ops c0) nal l) (s.ops c0) s.F x v w 0 (l.map RG.rh)).map (·.2):=by intro _ _ _; kernel_rfl)
  (hx:∀ x,allR (mkR P C h s (s.ops c0) nal l) n l x=allR (mkR P C h s (s.ops c0) nal l) n l (gx (projG x gens)):=by intro _; kernel_rfl):Go P C c0 Q h s:=by
 simp only [regOk,Qk,Any.b.injEq] at hst;obtain ⟨hp,hst⟩:=hst;refine g_code hp λa w hK=>?_;refine x_region hm (mkR P C h s (s.ops c0) nal l) (KF:=s.F) hK n (l.map RG.rh) ?_ (monoG mono) hc (λhT hA=>told hT hA (monoG mono)) (λx h' a w s' hK' hF=>?_)
 ·simp only [Qk,Any.b.injEq];exact hst
 ·have e:=hx x;simp only [allR,Qk,An.vs.injEq,An.es.injEq,An.ps.injEq,Iq] at e;obtain ⟨e1,e2,e3⟩:=e;refine (AllG.at_ (x:=x) k h' s' (factsG (i:=0) λq hq=>?_)).go a w ?_
  ·have:=map_at e3 q hq
   rw [<- this];exact hF q hq
  ·have h1:(mkR P C h s (s.ops c0) nal l).T.map (λt=>(t.2.1,t.2.2 x))=(mkR P C h s (s.ops c0) nal l).T.map (λt=>(t.2.1,t.2.2 (gx (projG x gens)))):=List.map_congr_left λt ht=>by rw [map_at e1 t ht]
   show K C ((mkR P C h s (s.ops c0) nal l).T.map (λt=>(t.2.1,t.2.2 (gx (projG x gens))))++_) ((mkR P C h s (s.ops c0) nal l).G.filterMap (iK (List.range n) (gx (projG x gens)))) s.F h' a w;rw [<- h1,<- e2];exact hK'
end
section
variable {P:Program} {Q:Exit->Act->World->Prop} {R:Reg} {ops:Array Oper} {i:Nat}
def chkP (R:Reg) (ops:Array Oper) (i:Nat) (f:Gh->Value) (x:Gh):List (An × An):=match R.T[plT R i]? with
 | some (i',d,f')=>[(.b (Nat.beq i' i && only R i none && noF R i && okR R ops i d (dpOf R ops i) x),.b true),(.v (f' x),.v (f x))]
 | none=>[(.bad,.b true)]
theorem chkP_parts {f:Gh->Value} (hc:∀ x,(chkP R ops i f x).map (·.1)=(chkP R ops i f x).map (·.2)):∃ (d p:Nat),R.T[p]?=some (i,d,f)/\only R i none=true/\(R.F.all λt=>t.1 != i)=true/\∀ x,okR R ops i d (dpOf R ops i) x=true:=by
 unfold chkP at hc
 split at hc
 ·rename_i i' d f' hp;simp only [Ik,List.map_nil,Qk,An.b.injEq,An.v.injEq,Uj,Iq] at hc;obtain ⟨⟨⟨c1,c2⟩,c3⟩,-⟩:=(hc (λ_=>undef)).1;have c1:=Zj c1;subst c1;have hf:f'=f:=funext λx=>(hc x).2;subst hf;exact ⟨d,_,hp,c2,c3,λx=>(hc x).1.2⟩
 ·have:=hc (λ_=>undef); simp at this
abbrev PureAt (P:Program) (R:Reg) (ops:Array Oper) (i:Nat) (f:Gh->Value):Prop:=∀ x w,(execOp (evD (rdx R ops i x)) (dX ops i)).run P w=.ok (.value (f x)) w
theorem t_p (hT:dK R=true) (hA:cK R ops=true) (f:Gh->Value) (hr:PureAt P R ops i f) (hk:∀ x,(chkP R ops i f x).map (·.1)=(chkP R ops i f x).map (·.2):=by intro _; kernel_rfl):StepAt' P ops Q R i:=by
 obtain ⟨d,p,hp,ho,hF,hk⟩:=chkP_parts hk;exact r_pure hT hA d f _ p hp ho hF hk hr
theorem aZ (hT:dK R=true) (hA:cK R ops=true) (f f0:Gh->Value) (hf:∀ x,f0 x=f x) (hr:PureAt P R ops i f0:=by intro _ _; kernel_rfl) (hk:∀ x,(chkP R ops i f x).map (·.1)=(chkP R ops i f x).map (·.2):=by intro _; kernel_rfl):StepAt' P ops Q R i :=
 t_p hT hA f (λx w=>run_eq (hr x w) (hf x)) hk
def ixOf:Op->Option (TypeId × Operand × Operand)
 | .indexAddr t x y=>some (t,x,y)
 | _=>none
def chkX (P:Program) (R:Reg) (ops:Array Oper) (i b off n cap k:Nat) (x:Gh):List Any:=match ixOf (dX ops i).op with
 | some (t,y,z)=>match P.underlying t with
  | some (.slice e)=>match P.info? e with
   | some inf=>[.v (evD (rdx R ops i x) y),.v (evD (rdx R ops i x) z),.v (.pointer (some ⟨b,off + k * inf.size,none⟩))]
   | none=>[.bad]
  | _=>[.bad]
 | none=>[.bad]
theorem bZ (hT:dK R=true) (hA:cK R ops=true) (b off n cap k:Nat) (f:Gh->Value) (hkn:k < n) (hx:∀ x,chkX P R ops i b off n cap k x=[.v (.slice (some ⟨b,off,none⟩) n cap),.v (.int .i64 (k:Int)),.v (f x)]:=by intro _; kernel_rfl)
  (hk:∀ x,(chkP R ops i f x).map (·.1)=(chkP R ops i f x).map (·.2):=by intro _; kernel_rfl):StepAt' P ops Q R i:=by
 refine t_p hT hA f (λx w=>?_) hk;have h0:=hx x;unfold chkX at h0
 split at h0
 ·rename_i t y z hop
  split at h0
  ·rename_i e ht
   split at h0
   ·rename_i inf he;simp only [Qk,Any.v.injEq,Iq] at h0;obtain ⟨h1,h2,h3⟩:=h0;have hop':(dX ops i).op=.indexAddr t y z:=by
     unfold ixOf at hop
     split at hop
     ·rename_i e'; simp only [Yj,Kq] at hop; obtain ⟨rfl,rfl,rfl⟩:=hop; exact e'
     ·cases hop
    rw [<- h3];exact run_indexAddr (kk:=inf.size) hop' h1 h2 hkn ht (by rw [he]; rfl)
   ·simp at h0
  ·simp at h0
 ·simp at h0
theorem t_v (hT:dK R=true) (hA:cK R ops=true) (hmono:∀ q∈R.F,∀ x h h',Sees h h'->q.2 x h->q.2 x h') {k:FuncId} {args:Gh->Array Value} {f:Gh->Value}
  (hc:∀ x H,Sees R.h H->(∀ (j:Nat) (q:Nat × (Gh->Vw->Prop)),R.F[j]?=some q->(R.an i).contains q.1=true->q.2 x H)->(∀ m,(∀ b∈R.C.wr,b∈m)->∃ l,Sees ⟨R.C.w0,m⟩ ⟨H.w,l⟩)->C0 P k (args x) H (λv _=>v=f x))
  (hr:∀ x w,(execOp (evD (rdx R ops i x)) (dX ops i)).run P w=.ok (.enter k (args x)) w:=by intro _ _; kernel_rfl) (hk:∀ x,(chkP R ops i f x).map (·.1)=(chkP R ops i f x).map (·.2):=by intro _; kernel_rfl):StepAt' P ops Q R i:=by
 obtain ⟨d,p,hp,ho,hF,hk⟩:=chkP_parts hk;exact r_callv hT hA hmono d f _ p hp ho hF hk k args hr hc
end
end Go.Proofs.YthgcgciceejicaaGreatDoor
