/-
  A walk by certificates, many steps at once: where a walk stands, and a run that the kernel reckons.
-/
import Derived.Test.YteolcggpflnpoaaSz
namespace Go.Proofs.Yteolcggpflnpoaa
open Go.RowKit

/-! ### Where a walk stands -/
def child (c : Code) (n : Nat) : Code :=
  match c with
  | .seq a b => match n with | 0 => a | _ => b
  | .cond _ a b => match n with | 0 => a | _ => b
  | .block _ b => b
  | .loop b => b
  | .scope b => b
  | c => c
/-- The part of c at a path (its last step first). -/
def sub (c : Code) : List Nat → Code
  | [] => c
  | n :: p => child (sub c p) n
def opsOf : Code → Array Oper
  | .region _ ops _ => ops
  | _ => #[]
def opsAt (c : Code) (p : List Nat) : Array Oper := opsOf (sub c p)

/-- What comes behind: code, a block's end. -/
inductive Kt where
  | seq (p : List Nat)
  | block (id : Nat)
inductive Pt where
  | code (p : List Nat)
  | ops (p : List Nat) (n : Nat)
  | out (e : Exit)

def post (P : Program) (c0 : Code) (Q : Exit → Act → World → Prop) : List Kt → Exit → Act → World → Prop
  | [] => Q
  | .seq p :: ks => Exit.then ((sub c0 p).wp P (post P c0 Q ks)) (post P c0 Q ks)
  | .block id :: ks => Exit.inBlock id (post P c0 Q ks)

def Goal (P : Program) (c0 : Code) (Q : Exit → Act → World → Prop) (p : Pt) (ks : List Kt) (a : Act) (w : World) : Prop :=
  match p with
  | .code p => (sub c0 p).wp P (post P c0 Q ks) a w
  | .ops p n => wpList P (opsAt c0 p) (post P c0 Q ks) ((opsAt c0 p).toList.drop n) a w
  | .out e => post P c0 Q ks e a w

/-! ### The state: known cells with it -/
abbrev Fac := Nat × Nat × List Value
structure K (C : Fx) (E : List (Nat × Value)) (B : List Ent) (F : List Fac) (h : Vw) (a : Act) (w : World) : Prop where
  j : J C E B h a w
  f : ∀ x ∈ F, Cells h x.1 x.2.1 x.2.2

/-! ### One step -/
inductive Any where
  | v (x : Value) | ls (x : List (List Value)) | r (x : Result Next) | b (x : Bool) | ov (x : List (Option Value)) | bs (x : List Ent) | fs (x : List Fac) | pt (p : Pt) (k : List Kt) | bad

inductive Hint where
  | b (i o : Nat)      -- a load, a store: own block i, at o
  | f (i o : Nat)      -- a load: known cells i, at o
  | own                -- a new block, the call's own
  | fix                -- .. known, never written
  | ix (b off n cap k : Nat)      -- the address of element k of a slice
  | pu                 -- it is reckoned
  | cl (f : FuncId) (args : Array Value) (v : Value)      -- a call that gives v
  | ap (i j : Nat) (l ns : List (List Value))      -- an append to own row i, which holds l, of known cells j, which are the rows ns

structure St where
  p : Pt
  ks : List Kt
  E : List (Nat × Value)
  B : List Ent
  F : List Fac
  hs : List Hint
  cs : List (Nat × Value × Value)

inductive Stp where
  | go (s : St) (e : World → List (Any × Any))
  | fresh (fx : Bool) (f : Nat → St) (e : World → List (Any × Any))
  | freshV (f : Value → St) (e : World → List (Any × Any))
  | bad

def castOf : List (Nat × Value × Value) → Nat → Option (Value × Value)
  | [], _ => none
  | p :: l, d => match Nat.beq p.1 d with
    | true => some p.2
    | false => castOf l d

def world0 : World := { heap := #[], tape := fun _ _ => 0, drawn := 0, os := default, output := #[] }
def cellsMade (P : Program) (E : List (Nat × Value)) (o : Oper) : List Value :=
  match (execOp (evD E) o).run P world0 with
  | .ok _ w => match w.heap.toList with
    | .cells c _ _ :: _ => c.toList
    | _ => []
  | _ => []
def elemT (P : Program) (t : TypeId) : TypeId :=
  match P.underlying t with
  | some (.slice e) => e
  | _ => t
def madeT (P : Program) : Op → TypeId
  | .alloc t => t
  | .box t _ => t
  | .buildSlice t _ _ => elemT P t
  | _ => 0
def madeV : Op → Nat → Value
  | .buildSlice _ n _, b => .slice (some ⟨b, 0, none⟩) n n
  | _, b => .pointer (some ⟨b, 0, none⟩)

def stepPure (P : Program) (u : World) (s : St) (p : List Nat) (n : Nat) (o : Oper) (d : Nat) (hs : List Hint) : Stp :=
  match (execOp (evD s.E) o).run P u with
  | .ok (.value v) _ => match castOf s.cs d with
    | none => .go { s with p := .ops p (n + 1), E := (d, v) :: s.E, hs := hs } fun w => [(.r ((execOp (evD s.E) o).run P w), .r (.ok (.value v) w))]
    | some (old, new) => .go { s with p := .ops p (n + 1), E := (d, new) :: s.E, hs := hs } fun w => [(.r ((execOp (evD s.E) o).run P w), .r (.ok (.value old) w))]
  | _ => .bad
def stepMade (P : Program) (s : St) (p : List Nat) (n : Nat) (o : Oper) (d : Nat) : Stp :=
  match s.hs with
  | .own :: hs => .fresh false (fun b => { s with p := .ops p (n + 1), E := (d, madeV o.op b) :: s.E, B := .box b (cellsMade P s.E o) :: s.B, hs := hs }) fun w => [(.r ((execOp (evD s.E) o).run P w), .r (.ok (.value (madeV o.op w.heap.size)) (w.alloc (.cells (cellsMade P s.E o).toArray (madeT P o.op)))))]
  | .fix :: hs => .fresh true (fun b => { s with p := .ops p (n + 1), E := (d, madeV o.op b) :: s.E, F := (b, 0, cellsMade P s.E o) :: s.F, hs := hs }) fun w => [(.r ((execOp (evD s.E) o).run P w), .r (.ok (.value (madeV o.op w.heap.size)) (w.alloc (.cells (cellsMade P s.E o).toArray (madeT P o.op)))))]
  | _ => .bad
def stepLoad (P : Program) (s : St) (p : List Nat) (n : Nat) (t : TypeId) (x : Operand) (d : Nat) : Stp :=
  match s.hs with
  | .b i off :: hs => match s.B[i]? with
    | some (.box b cs) => match loadsAs P t cs off with
      | some v => .go { s with p := .ops p (n + 1), E := (d, v) :: s.E, hs := hs } fun _ => [(.v (evD s.E x), .v (.pointer (some ⟨b, off, none⟩)))]
      | none => .bad
    | _ => .bad
  | .f i off :: hs => match s.F[i]? with
    | some (b, o0, cs) => match loadsAs P t cs off with
      | some v => .go { s with p := .ops p (n + 1), E := (d, v) :: s.E, hs := hs } fun _ => [(.v (evD s.E x), .v (.pointer (some ⟨b, o0 + off, none⟩)))]
      | none => .bad
    | _ => .bad
  | _ => .bad
def stepStore (P : Program) (s : St) (p : List Nat) (n : Nat) (t : TypeId) (x y : Operand) : Stp :=
  match s.hs with
  | .b i off :: hs => match s.B[i]? with
    | some (.box b cs) => .go { s with p := .ops p (n + 1), B := s.B.set i (.box b (putMany cs off (evD s.E y).cells.toList)), hs := hs } fun _ => [(.v (evD s.E x), .v (.pointer (some ⟨b, off, none⟩))), (.b (storesOk P t cs off (evD s.E y)), .b true)]
    | _ => .bad
  | _ => .bad
def stepIx (P : Program) (u : World) (s : St) (p : List Nat) (n : Nat) (o : Oper) (t : TypeId) (x y : Operand) (d : Nat) : Stp :=
  match P.underlying t with
  | some (.slice e) => match s.hs with
    | .ix b off m cap k :: hs => match P.info? e with
      | some i => .go { s with p := .ops p (n + 1), E := (d, .pointer (some ⟨b, off + k * i.size, none⟩)) :: s.E, hs := hs } fun _ => [(.v (evD s.E x), .v (.slice (some ⟨b, off, none⟩) m cap)), (.v (evD s.E y), .v (.int .i64 (k : Int)))]
      | none => .bad
    | .pu :: hs => stepPure P u s p n o d hs
    | _ => .bad
  | _ => stepPure P u s p n o d s.hs
def stepApp (P : Program) (s : St) (p : List Nat) (n : Nat) (o : Oper) (c : Call) (d : Nat) : Stp :=
  match c.args.toList, c.argTypes.toList, s.hs with
  | [y, z], [t, t'], .ap i j l ns :: hs => match s.B[i]?, s.F[j]?, evD s.E z, P.underlying t with
    | some (.row v te kk l0), some (b, 0, cs), .slice _ m cp, some (.slice te') => match P.info? te with
      | some inf => match inf.zero with
        | some zv => .freshV (fun u => { s with p := .ops p (n + 1), E := (d, .slice (sA u) (sN u) (sC u)) :: s.E, B := s.B.set i (.row (.slice (sA u) (sN u) (sC u)) te kk (l ++ ns)), hs := hs })
            fun _ => [(.v (evD s.E y), .v v), (.v (evD s.E z), .v (.slice (some ⟨b, 0, none⟩) m cp)), (.ls l0, .ls l), (.ls [cs], .ls [ns.flatten]), (.b (Nat.beq t' t && Nat.beq o.type t && Nat.beq te' te && Nat.beq inf.size kk && Nat.beq zv.cells.size kk && Nat.ble inf.bytes 1000000 && chkRows kk ns m), .b true)]
        | none => .bad
      | none => .bad
    | _, _, _, _ => .bad
  | _, _, _ => .bad
def stepCall (P : Program) (u : World) (s : St) (p : List Nat) (n : Nat) (o : Oper) (c : Call) (d : Nat) : Stp :=
  match c.callee with
  | .value _ => match s.hs with
    | .cl f args v :: hs => .go { s with p := .ops p (n + 1), E := (d, v) :: s.E, hs := hs } fun w => [(.r ((execOp (evD s.E) o).run P w), .r (.ok (.enter f args) w))]
    | _ => .bad
  | .builtin .append => stepApp P s p n o c d
  | _ => stepPure P u s p n o d s.hs
def stepOp (P : Program) (C : Fx) (u : World) (s : St) (p : List Nat) (n : Nat) (ops : Array Oper) (o : Oper) : Stp :=
  match gKnown s.E ops o with
  | none => .bad
  | some false => match o.dst with
    | some d => match Nat.blt d C.N with
      | true => .go { s with p := .ops p (n + 1), E := (d, undef) :: s.E } fun _ => []
      | false => .bad
    | none => .go { s with p := .ops p (n + 1) } fun _ => []
  | some true => match opsKnown s.E o with
    | false => .bad
    | true => match o.dst with
      | none => match o.op with
        | .store t x y => stepStore P s p n t x y
        | _ => .bad
      | some d => match Nat.blt d C.N with
        | false => .bad
        | true => match o.op with
          | .load t x => stepLoad P s p n t x d
          | .alloc _ => stepMade P s p n o d
          | .box _ _ => stepMade P s p n o d
          | .buildSlice _ _ _ => stepMade P s p n o d
          | .indexAddr t x y => stepIx P u s p n o t x y d
          | .call c => stepCall P u s p n o c d
          | _ => stepPure P u s p n o d s.hs

def stepCode (s : St) (p : List Nat) : Code → Stp
  | .skip => .go { s with p := .out .normal } fun _ => []
  | .label _ => .go { s with p := .out .normal } fun _ => []
  | .seq _ _ => .go { s with p := .code (0 :: p), ks := .seq (1 :: p) :: s.ks } fun _ => []
  | .block id _ => .go { s with p := .code (0 :: p), ks := .block id :: s.ks } fun _ => []
  | .exit id => .go { s with p := .out (.exit id) } fun _ => []
  | .ret => .go { s with p := .out .ret } fun _ => []
  | .cond c _ _ => match evE s.E c with
    | some (.bool true) => .go { s with p := .code (0 :: p) } fun _ => []
    | some (.bool false) => .go { s with p := .code (1 :: p) } fun _ => []
    | _ => .bad
  | .region _ _ draw => match draw with
    | false => .go { s with p := .ops p 0 } fun _ => []
    | true => .bad
  | _ => .bad
def isNorm : Exit → Bool
  | .normal => true
  | _ => false
def stepOut (s : St) (e : Exit) : Stp :=
  match s.ks with
  | [] => .bad
  | .seq q :: ks => match isNorm e with
    | true => .go { s with p := .code q, ks := ks } fun _ => []
    | false => .go { s with p := .out e, ks := ks } fun _ => []
  | .block id :: ks => match e with
    | .exit id' => match Nat.beq id' id with
      | true => .go { s with p := .out .normal, ks := ks } fun _ => []
      | false => .go { s with p := .out (.exit id'), ks := ks } fun _ => []
    | e => .go { s with p := .out e, ks := ks } fun _ => []

def step1 (P : Program) (C : Fx) (c0 : Code) (u : World) (s : St) : Stp :=
  match s.p with
  | .code p => stepCode s p (sub c0 p)
  | .ops p n => match (opsAt c0 p).toList.drop n with
    | [] => .go { s with p := .out .normal } fun _ => []
    | o :: _ => stepOp P C u s p n (opsAt c0 p) o
  | .out e => stepOut s e

/-! ### A run -/
/-- Where a run ends, behind new blocks. -/
inductive Tgt where
  | ok (p : Pt) (ks : List Kt) (E : List (Nat × Value)) (B : List Ent) (F : List Fac)
  | new (f : Nat → Tgt)
  | nv (f : Value → Tgt)
inductive Nm where
  | b (n : Nat)
  | v (x : Value)

def ends (s : St) (E : List (Nat × Value)) : List Any := [.pt s.p s.ks, .ov (E.map fun p => lookup s.E p.1), .bs s.B, .fs s.F]
def wants (p : Pt) (ks : List Kt) (E : List (Nat × Value)) (B : List Ent) (F : List Fac) : List Any := [.pt p ks, .ov (E.map fun p => some p.2), .bs B, .fs F]
def Tgt.fin (s : St) : Tgt → List Any × List Any
  | .ok p ks E B F => (ends s E, wants p ks E B F)
  | _ => ([.bad], [])
def addE (e : List (Any × Any)) (r : List Any × List Any) : List Any × List Any := (e.map (·.1) ++ r.1, e.map (·.2) ++ r.2)
/-- The run's equations, where its new blocks are called l. -/
def run (P : Program) (C : Fx) (c0 : Code) (u : World) (fl : Bool) : Nat → St → Tgt → List Nm → World → List Any × List Any
  | 0, s, T, _, _ => T.fin s
  | n + 1, s, T, l, w => match step1 P C c0 u s with
    | .go s' e => addE (e w) (run P C c0 u fl n s' T l w)
    | .fresh fx f e => match T, l, fx && !fl with
      | .new g, .b b :: l, false => addE (e w) (run P C c0 u fl n (f b) (g b) l w)
      | _, _, _ => ([.bad], [])
    | .freshV f e => match T, l, fl with
      | .nv g, .v x :: l, true => addE (e w) (run P C c0 u fl n (f x) (g x) l w)
      | _, _, _ => ([.bad], [])
    | .bad => ([.bad], [])

def Tgt.all : Tgt → (List Nm → Prop) → Prop
  | .new f, q => ∀ b, (f b).all fun l => q (.b b :: l)
  | .nv f, q => ∀ b, (f b).all fun l => q (.v b :: l)
  | .ok .., q => q []
/-- What is owed behind a run: the view moves on (fl), or stays. -/
def Tgt.good (C : Fx) (h : Vw) (G : Pt → List Kt → Act → World → Prop) (fl : Bool) : Tgt → Prop
  | .ok p ks E B F => match fl with
    | false => ∀ a w, K C E B F h a w → G p ks a w
    | true => ∀ h' a w, Sees h h' → K C E B F h' a w → G p ks a w
  | .new f => ∀ b, (f b).good C h G fl
  | .nv f => ∀ b, (f b).good C h G fl
/-- What hints owe. -/
def owes (P : Program) (h : Vw) : List Hint → Prop
  | [] => True
  | .ix _ _ n _ k :: l => k < n ∧ owes P h l
  | .cl f args v :: l => (∀ H, Sees h H → C0 P f args H fun r _ => r = v) ∧ owes P h l
  | .ap _ _ l0 ns :: l => l0.length + ns.length ≤ 100000000 ∧ owes P h l
  | _ :: l => owes P h l
def owesC : List (Nat × Value × Value) → Prop
  | [] => True
  | p :: l => p.2.1 = p.2.2 ∧ owesC l

section
variable {P : Program} {C : Fx} {c0 : Code} {u : World} {Q : Exit → Act → World → Prop} {h h0 : Vw} {a : Act} {w : World} {s s' : St} {T : Tgt}

theorem Tgt.all_mono {q q' : List Nm → Prop} : ∀ {T : Tgt}, T.all q → (∀ l, q l → q' l) → T.all q'
  | .ok .., h, k => k _ h
  | .new _, h, k => fun b => Tgt.all_mono (h b) fun l => k (.b b :: l)
  | .nv _, h, k => fun b => Tgt.all_mono (h b) fun l => k (.v b :: l)
theorem Tgt.all_some {q : List Nm → Prop} : ∀ {T : Tgt}, T.all q → ∃ l, q l
  | .ok .., h => ⟨_, h⟩
  | .new f, h => by obtain ⟨l, hl⟩ := Tgt.all_some (h 0); exact ⟨_, hl⟩
  | .nv f, h => by obtain ⟨l, hl⟩ := Tgt.all_some (h undef); exact ⟨_, hl⟩

theorem addE_eq : ∀ {e : List (Any × Any)} {r : List Any × List Any}, (addE e r).1 = (addE e r).2 → (∀ x ∈ e, x.1 = x.2) ∧ r.1 = r.2
  | [], r, h => ⟨by simp, by simpa [addE] using h⟩
  | x :: e, r, h => by
    simp only [addE, List.map_cons, List.cons_append, List.cons.injEq] at h
    have := addE_eq (e := e) (r := r) h.2
    refine ⟨fun y hy => ?_, this.2⟩
    rcases List.mem_cons.1 hy with rfl | hy
    · exact h.1
    · exact this.1 y hy

theorem castOf_owes : ∀ {l : List (Nat × Value × Value)} {d : Nat} {p : Value × Value}, owesC l → castOf l d = some p → p.1 = p.2
  | q :: l, d, p, h, e => by
    unfold castOf at e
    split at e
    · simp only [Option.some.injEq] at e; subst e; exact h.1
    · exact castOf_owes h.2 e

/-- What a step keeps. -/
structure Ok (P : Program) (C : Fx) (h0 : Vw) (fl : Bool) (s : St) (h : Vw) (a : Act) (w : World) : Prop where
  k : K C s.E s.B s.F h a w
  sees : Sees h0 h
  owes : owes P h0 s.hs
  owesC : owesC s.cs
  same : fl = false → h = h0

def Suff (P : Program) (C : Fx) (c0 : Code) (Q : Exit → Act → World → Prop) (h0 : Vw) (fl : Bool) (a : Act) (w : World) (p : Pt) (ks : List Kt) : Stp → Prop
  | .go s' e => (∀ w, ∀ x ∈ e w, x.1 = x.2) → (∀ h a w, Ok P C h0 fl s' h a w → Goal P c0 Q s'.p s'.ks a w) → Goal P c0 Q p ks a w
  | .fresh fx f e => (∀ w, ∀ x ∈ e w, x.1 = x.2) → (fx = true → fl = true) → (∀ b h a w, Ok P C h0 fl (f b) h a w → Goal P c0 Q (f b).p (f b).ks a w) → Goal P c0 Q p ks a w
  | .freshV f e => (∀ w, ∀ x ∈ e w, x.1 = x.2) → fl = true → (∀ b h a w, Ok P C h0 fl (f b) h a w → Goal P c0 Q (f b).p (f b).ks a w) → Goal P c0 Q p ks a w
  | .bad => True

theorem drop_cons {l : List Oper} {n : Nat} {o : Oper} {r : List Oper} (h : l.drop n = o :: r) : r = l.drop (n + 1) := by
  have : (l.drop n).tail = r := by rw [h]; rfl
  rw [← this, List.tail_drop]

section ops
variable {p : List Nat} {n : Nat} {o : Oper} {rest : List Oper} {d : Nat} {fl : Bool}

theorem goal_unguard (hl : (opsAt c0 p).toList.drop n = o :: rest) {ks : List Kt} (hw : Region.wanted o (yielded (opsAt c0 p) a.tmps) = true)
    (k : wpList P (opsAt c0 p) (post P c0 Q ks) ({ o with guard := none } :: rest) a w) : Goal P c0 Q (.ops p n) ks a w := by
  unfold Goal
  simp only
  rw [hl]
  unfold wpList at k ⊢
  rw [if_pos hw]
  rw [if_pos (by simp [Region.wanted])] at k
  exact k

theorem ok_put (ok : Ok P C h0 fl s h a w) (v : Value) (hd : o.dst = some d) (hlt : d < C.N) {pt : Pt} {hs : List Hint} (ho : owes P h0 hs) :
    Ok P C h0 fl { s with p := pt, E := (d, v) :: s.E, hs := hs } h (a.put o.dst v) w :=
  ⟨⟨ok.k.j.putd v hd hlt, ok.k.f⟩, ok.sees, ho, ok.owesC, ok.same⟩

theorem okk (hd : o.dst = some d) (hlt : d < C.N) (hk : opsKnown s.E o = true) : okOp C s.E { o with guard := none } d = true := by
  have hk' : opsKnown s.E { o with guard := none } = true := hk
  unfold okOp
  rw [hk']
  simp [hd, Nat.blt_eq, hlt]

theorem owes_tail {x : Hint} {l : List Hint} (h : owes P h0 (x :: l)) : owes P h0 l := by
  cases x <;> first | exact h | exact h.2

theorem suff_pure (hl : (opsAt c0 p).toList.drop n = o :: rest) (hw : Region.wanted o (yielded (opsAt c0 p) a.tmps) = true) (hd : o.dst = some d) (hlt : d < C.N) (hk : opsKnown s.E o = true) (ok : Ok P C h0 fl s h a w) {hs : List Hint} (ho : owes P h0 hs) :
    Suff P C c0 Q h0 fl a w (.ops p n) s.ks (stepPure P u s p n o d hs) := by
  have hr := drop_cons hl
  unfold stepPure
  split
  · rename_i v _ _
    split
    · intro he k
      have he := he w _ (List.mem_singleton.2 rfl)
      simp only [Any.r.injEq] at he
      refine goal_unguard hl hw (wpList_plain rfl fun KK hK => ?_)
      unfold Oper.wp
      rw [run_ev (o := { o with guard := none }) ok.k.j.fits hk, show (execOp (evD s.E) { o with guard := none }).run P w = _ from he]
      refine hK _ _ ?_
      rw [hr]
      exact k _ _ _ (ok_put ok v hd hlt ho)
    · rename_i old new hc
      intro he k
      have he := he w _ (List.mem_singleton.2 rfl)
      simp only [Any.r.injEq] at he
      have := castOf_owes ok.owesC hc
      simp only at this
      subst this
      refine goal_unguard hl hw (wpList_plain rfl fun KK hK => ?_)
      unfold Oper.wp
      rw [run_ev (o := { o with guard := none }) ok.k.j.fits hk, show (execOp (evD s.E) { o with guard := none }).run P w = _ from he]
      refine hK _ _ ?_
      rw [hr]
      exact k _ _ _ (ok_put ok _ hd hlt ho)
  · trivial

theorem suff_made (hl : (opsAt c0 p).toList.drop n = o :: rest) (hw : Region.wanted o (yielded (opsAt c0 p) a.tmps) = true) (hd : o.dst = some d) (hlt : d < C.N) (hk : opsKnown s.E o = true) (ok : Ok P C h0 fl s h a w) :
    Suff P C c0 Q h0 fl a w (.ops p n) s.ks (stepMade P s p n o d) := by
  have hr := drop_cons hl
  unfold stepMade
  split
  · rename_i hs e
    intro he _ k
    have he := he w _ (List.mem_singleton.2 rfl)
    simp only [Any.r.injEq] at he
    have ho := ok.owes
    rw [e] at ho
    refine goal_unguard hl hw (wpList_plain rfl fun KK hK => ?_)
    unfold Oper.wp
    rw [run_ev (o := { o with guard := none }) ok.k.j.fits hk, show (execOp (evD s.E) { o with guard := none }).run P w = _ from he]
    refine hK _ _ ?_
    rw [hr]
    exact k w.heap.size _ _ _ ⟨⟨(ok.k.j.new _ _).putd _ hd hlt, ok.k.f⟩, ok.sees, owes_tail ho, ok.owesC, ok.same⟩
  · rename_i hs e
    intro he hfl k
    have he := he w _ (List.mem_singleton.2 rfl)
    simp only [Any.r.injEq] at he
    have ho := ok.owes
    rw [e] at ho
    have hfl := hfl rfl
    obtain ⟨h', s1, c1, j1⟩ := ok.k.j.fact (cellsMade P s.E o) (madeT P o.op)
    refine goal_unguard hl hw (wpList_plain rfl fun KK hK => ?_)
    unfold Oper.wp
    rw [run_ev (o := { o with guard := none }) ok.k.j.fits hk, show (execOp (evD s.E) { o with guard := none }).run P w = _ from he]
    refine hK _ _ ?_
    rw [hr]
    refine k w.heap.size _ _ _ ⟨⟨j1.putd _ hd hlt, fun x hx => ?_⟩, ok.sees.trans s1, owes_tail ho, ok.owesC, fun e => by rw [e] at hfl; cases hfl⟩
    rcases List.mem_cons.1 hx with rfl | hx
    · exact c1
    · exact (ok.k.f x hx).sees s1
  · trivial

theorem ev_of {E : List (Nat × Value)} {x : Operand} (hk : (evE E x).isSome = true) : evE E x = some (evD E x) := by
  obtain ⟨v, hv⟩ := Option.isSome_iff_exists.1 hk
  simp [evD, hv]
theorem known_of {E : List (Nat × Value)} (hk : opsKnown E o = true) {x : Operand} (hx : x ∈ o.op.operands.toList) : evE E x = some (evD E x) := by
  unfold opsKnown at hk
  rw [Bool.and_eq_true] at hk
  exact ev_of (List.all_eq_true.1 hk.2 x hx)

theorem suff_load (hl : (opsAt c0 p).toList.drop n = o :: rest) (hw : Region.wanted o (yielded (opsAt c0 p) a.tmps) = true) (hd : o.dst = some d) (hlt : d < C.N) (hk : opsKnown s.E o = true) (ok : Ok P C h0 fl s h a w) {t : TypeId} {x : Operand} (hop : o.op = .load t x) :
    Suff P C c0 Q h0 fl a w (.ops p n) s.ks (stepLoad P s p n t x d) := by
  have hr := drop_cons hl
  have hx := known_of hk (x := x) (by rw [hop]; simp [Op.operands])
  have hok := okk hd hlt hk
  unfold stepLoad
  split
  · rename_i i off hs e
    have ho := ok.owes
    rw [e] at ho
    split
    · rename_i b cs hB
      split
      · rename_i v hv
        intro he k
        have he := he w _ (List.mem_singleton.2 rfl)
        simp only [Any.v.injEq] at he
        refine goal_unguard hl hw (s_load ok.k.j d v i hok hop hB (by rw [hx, he]) hv fun a' j => ?_)
        rw [hr]
        exact k _ _ _ ⟨⟨j, ok.k.f⟩, ok.sees, owes_tail ho, ok.owesC, ok.same⟩
      · trivial
    · trivial
  · rename_i i off hs e
    have ho := ok.owes
    rw [e] at ho
    split
    · rename_i b o0 cs hF
      split
      · rename_i v hv
        intro he k
        have he := he w _ (List.mem_singleton.2 rfl)
        simp only [Any.v.injEq] at he
        refine goal_unguard hl hw (s_loadf ok.k.j d v (ok.k.f _ (List.mem_of_getElem? hF)) (Sees.refl _) hok hop (by rw [hx, he]) hv fun a' j => ?_)
        rw [hr]
        exact k _ _ _ ⟨⟨j, ok.k.f⟩, ok.sees, owes_tail ho, ok.owesC, ok.same⟩
      · trivial
    · trivial
  · trivial

theorem suff_store (hl : (opsAt c0 p).toList.drop n = o :: rest) (hw : Region.wanted o (yielded (opsAt c0 p) a.tmps) = true) (hd : o.dst = none) (hk : opsKnown s.E o = true) (ok : Ok P C h0 fl s h a w) {t : TypeId} {x y : Operand} (hop : o.op = .store t x y) :
    Suff P C c0 Q h0 fl a w (.ops p n) s.ks (stepStore P s p n t x y) := by
  have hr := drop_cons hl
  have hx := known_of hk (x := x) (by rw [hop]; simp [Op.operands])
  have hy := known_of hk (x := y) (by rw [hop]; simp [Op.operands])
  unfold stepStore
  split
  · rename_i i off hs e
    have ho := ok.owes
    rw [e] at ho
    split
    · rename_i b cs hB
      intro he k
      have he1 := he w (.v (evD s.E x), .v (.pointer (some ⟨b, off, none⟩))) (List.mem_cons_self ..)
      have he2 := he w (.b (storesOk P t cs off (evD s.E y)), .b true) (List.mem_cons_of_mem _ (List.mem_singleton.2 rfl))
      simp only [Any.v.injEq] at he1
      simp only [Any.b.injEq] at he2
      refine goal_unguard hl hw (s_store ok.k.j i (evD s.E y) _ (by simp [hd]) hop hB (by rw [hx, he1]) hy he2 rfl fun w' j => ?_)
      rw [hr]
      exact k _ _ _ ⟨⟨j, ok.k.f⟩, ok.sees, owes_tail ho, ok.owesC, ok.same⟩
    · trivial
  · trivial

theorem suff_ix (hl : (opsAt c0 p).toList.drop n = o :: rest) (hw : Region.wanted o (yielded (opsAt c0 p) a.tmps) = true) (hd : o.dst = some d) (hlt : d < C.N) (hk : opsKnown s.E o = true) (ok : Ok P C h0 fl s h a w) {t : TypeId} {x y : Operand} (hop : o.op = .indexAddr t x y) :
    Suff P C c0 Q h0 fl a w (.ops p n) s.ks (stepIx P u s p n o t x y d) := by
  have hr := drop_cons hl
  unfold stepIx
  split
  · rename_i e ht
    split
    · rename_i b off m cap k0 hs e2
      have ho := ok.owes
      rw [e2] at ho
      split
      · rename_i i hi
        intro he k
        have he1 := he w (.v (evD s.E x), .v (.slice (some ⟨b, off, none⟩) m cap)) (List.mem_cons_self ..)
        have he2 := he w (.v (evD s.E y), .v (.int .i64 (k0 : Int))) (List.mem_cons_of_mem _ (List.mem_singleton.2 rfl))
        simp only [Any.v.injEq] at he1 he2
        refine goal_unguard hl hw (wpList_plain rfl fun KK hK => ?_)
        unfold Oper.wp
        rw [run_ev (o := { o with guard := none }) ok.k.j.fits hk, run_indexAddr (o := { o with guard := none }) (e := e) (kk := i.size) hop he1 he2 ho.1 ht (by rw [hi]; rfl)]
        refine hK _ _ ?_
        rw [hr]
        exact k _ _ _ (ok_put ok _ hd hlt ho.2)
      · trivial
    · rename_i hs e2
      have ho := ok.owes
      rw [e2] at ho
      exact suff_pure hl hw hd hlt hk ok (owes_tail ho)
    · trivial
  · exact suff_pure hl hw hd hlt hk ok ok.owes

theorem suff_app (hl : (opsAt c0 p).toList.drop n = o :: rest) (hw : Region.wanted o (yielded (opsAt c0 p) a.tmps) = true) (hd : o.dst = some d) (hlt : d < C.N) (hk : opsKnown s.E o = true) (ok : Ok P C h0 fl s h a w) {c : Call} (hop : o.op = .call c) (hcal : c.callee = .builtin .append) :
    Suff P C c0 Q h0 fl a w (.ops p n) s.ks (stepApp P s p n o c d) := by
  have hr := drop_cons hl
  unfold stepApp
  split
  · rename_i y z t t' i j l ns hs ha hat e
    have ho := ok.owes
    rw [e] at ho
    split
    · rename_i v te kk l0 b cs zA m cp te' hB hF hz ht
      split
      · rename_i inf hinf
        split
        · rename_i zv hzv
          intro he hfl k
          have he := he w
          simp only [List.mem_cons, List.not_mem_nil, or_false, forall_eq_or_imp, forall_eq, Any.v.injEq, Any.ls.injEq, Any.b.injEq, Bool.and_eq_true, List.cons.injEq, and_true] at he
          obtain ⟨e1, e2, rfl, rfl, ⟨⟨⟨⟨⟨b1, b2⟩, b3⟩, b4⟩, b5⟩, b6⟩, b7⟩ := he
          have b1 := Nat.eq_of_beq_eq_true b1
          have b2 := Nat.eq_of_beq_eq_true b2
          have b3 := Nat.eq_of_beq_eq_true b3
          have b4 := Nat.eq_of_beq_eq_true b4
          have b5 := Nat.eq_of_beq_eq_true b5
          have b6 := Nat.le_of_ble_eq_true b6
          subst b1 b3
          have hca : c = { callee := .builtin .append, args := #[y, z], argTypes := #[t', t'] } := by
            obtain ⟨c1, c2, c3⟩ := c
            simp only at hcal ha hat
            subst hcal
            congr 1
            · rw [← Array.toArray_toList (xs := c2), ha]
            · rw [← Array.toArray_toList (xs := c3), hat]
          have hy1 := known_of hk (x := y) (by rw [hop, hca]; simp [Op.operands, Call.operands])
          have hz1 := known_of hk (x := z) (by rw [hop, hca]; simp [Op.operands, Call.operands])
          have hmm := (chkRows_parts b7).2.2.1
          refine goal_unguard hl hw (s_append (o := { o with guard := none }) (m := m) (c := cp) (ns := ns) ok.k.j d i (okk hd hlt hk) (by rw [← hca]; exact hop) b2 hB (by rw [hy1, e1]) (by rw [hz1, e2]) (ok.k.f _ (List.mem_of_getElem? hF)) (Sees.refl _) ht (by rw [hinf]; simp only [Option.map_some, hzv, b4]; rfl) b5 b7 ⟨?_, ?_⟩ fun u h' a' w' s1 j1 => ?_)
          · have h1 := ho.1
            rw [hmm] at h1
            calc (l0.length + m) * inf.bytes ≤ 100000000 * 1000000 := Nat.mul_le_mul h1 b6
              _ ≤ _ := by decide
          · have h1 := ho.1; omega
          · rw [hr]
            exact k u _ _ _ ⟨⟨j1, fun x hx => (ok.k.f x hx).sees s1⟩, ok.sees.trans s1, ho.2, ok.owesC, fun e => by rw [e] at hfl; cases hfl⟩
        · trivial
      · trivial
    · trivial
  · trivial

theorem suff_call (hl : (opsAt c0 p).toList.drop n = o :: rest) (hw : Region.wanted o (yielded (opsAt c0 p) a.tmps) = true) (hd : o.dst = some d) (hlt : d < C.N) (hk : opsKnown s.E o = true) (ok : Ok P C h0 fl s h a w) {c : Call} (hop : o.op = .call c) :
    Suff P C c0 Q h0 fl a w (.ops p n) s.ks (stepCall P u s p n o c d) := by
  have hr := drop_cons hl
  unfold stepCall
  split
  · split
    · rename_i f args v hs e2
      have ho := ok.owes
      rw [e2] at ho
      intro he k
      have he := he w _ (List.mem_singleton.2 rfl)
      simp only [Any.r.injEq] at he
      refine goal_unguard hl hw (wpList_plain rfl fun KK hK => ?_)
      unfold Oper.wp
      rw [run_ev (o := { o with guard := none }) ok.k.j.fits hk, show (execOp (evD s.E) { o with guard := none }).run P w = _ from he]
      refine (ho.1 ⟨w, blk s.B ++ C.bad0⟩ (ok.sees.trans ok.k.j.sees) (by intro x hx; cases hx) (by simp) (by simp) (bad_lt ok.k.j)).mono ?_
      rintro e w' ⟨v', Bo, rfl, hlow, -, -, rfl⟩
      refine hK _ _ ?_
      rw [hr]
      exact k _ _ _ ⟨⟨(ok.k.j.grow hlow).putd _ hd hlt, ok.k.f⟩, ok.sees, ho.2, ok.owesC, ok.same⟩
    · trivial
  · rename_i hcal; exact suff_app hl hw hd hlt hk ok hop hcal
  · exact suff_pure hl hw hd hlt hk ok ok.owes

theorem suff_op (hl : (opsAt c0 p).toList.drop n = o :: rest) (ok : Ok P C h0 fl s h a w) : Suff P C c0 Q h0 fl a w (.ops p n) s.ks (stepOp P C u s p n (opsAt c0 p) o) := by
  have hr := drop_cons hl
  unfold stepOp
  split
  · trivial
  · rename_i hg
    have hw := gKnown_wanted ok.k.j.fits hg
    split
    · rename_i d hd
      split
      · rename_i hlt
        intro _ k
        unfold Goal
        simp only
        rw [hl]
        unfold wpList
        rw [if_neg (by rw [hw]; simp), hr]
        exact k _ _ _ ⟨⟨ok.k.j.putd _ hd (by have := Nat.le_of_ble_eq_true hlt; omega), ok.k.f⟩, ok.sees, ok.owes, ok.owesC, ok.same⟩
      · trivial
    · rename_i hd
      intro _ k
      unfold Goal
      simp only
      rw [hl]
      unfold wpList
      rw [if_neg (by rw [hw]; simp), hr, hd]
      exact k _ _ _ ⟨⟨ok.k.j, ok.k.f⟩, ok.sees, ok.owes, ok.owesC, ok.same⟩
  · rename_i hg
    have hw := gKnown_wanted ok.k.j.fits hg
    split
    · trivial
    · rename_i hk
      split
      · rename_i hd
        split
        · rename_i t x y hop
          exact suff_store hl hw hd hk ok hop
        · trivial
      · rename_i d hd
        split
        · trivial
        · rename_i hlt
          have hlt : d < C.N := by simpa [Nat.blt_eq] using hlt
          split
          · rename_i hop; exact suff_load hl hw hd hlt hk ok hop
          · exact suff_made hl hw hd hlt hk ok
          · exact suff_made hl hw hd hlt hk ok
          · exact suff_made hl hw hd hlt hk ok
          · rename_i hop; exact suff_ix hl hw hd hlt hk ok hop
          · rename_i hop; exact suff_call hl hw hd hlt hk ok hop
          · exact suff_pure hl hw hd hlt hk ok ok.owes
end ops

theorem ok_same {fl : Bool} (ok : Ok P C h0 fl s h a w) (p : Pt) (ks : List Kt) : Ok P C h0 fl { s with p := p, ks := ks } h a w := ⟨ok.k, ok.sees, ok.owes, ok.owesC, ok.same⟩

theorem suff_code {fl : Bool} {p : List Nat} (ok : Ok P C h0 fl s h a w) : Suff P C c0 Q h0 fl a w (.code p) s.ks (stepCode s p (sub c0 p)) := by
  unfold stepCode
  split <;> rename_i hc
  · intro _ k; unfold Goal; simp only; rw [hc]; exact wp_skip (k _ _ _ (ok_same ok _ _))
  · intro _ k; unfold Goal; simp only; rw [hc]; exact wp_label (k _ _ _ (ok_same ok _ _))
  · intro _ k; unfold Goal; simp only; rw [hc]
    refine wp_seq ?_
    have := k _ _ _ (ok_same ok _ _)
    simpa only [Goal, post, sub, hc, child] using this
  · intro _ k; unfold Goal; simp only; rw [hc]
    refine wp_block ?_
    have := k _ _ _ (ok_same ok _ _)
    simpa only [Goal, post, sub, hc, child] using this
  · intro _ k; unfold Goal; simp only; rw [hc]; exact wp_exit (k _ _ _ (ok_same ok _ _))
  · intro _ k; unfold Goal; simp only; rw [hc]; exact wp_ret (k _ _ _ (ok_same ok _ _))
  · split
    · rename_i hv
      intro _ k; unfold Goal; simp only; rw [hc]
      refine wp_cond_true (ok.k.j.fits.ev hv) ?_
      have := k _ _ _ (ok_same ok _ _)
      simpa only [Goal, post, sub, hc, child] using this
    · rename_i hv
      intro _ k; unfold Goal; simp only; rw [hc]
      refine wp_cond_false (ok.k.j.fits.ev hv) ?_
      have := k _ _ _ (ok_same ok _ _)
      simpa only [Goal, post, sub, hc, child] using this
    · trivial
  · split
    · intro _ k; unfold Goal; simp only; rw [hc]
      refine wp_region_list ?_
      have := k _ _ _ (ok_same ok _ _)
      simpa only [Goal, opsAt, opsOf, hc, List.drop_zero] using this
    · trivial
  · trivial

theorem suff_out {fl : Bool} {e : Exit} (ok : Ok P C h0 fl s h a w) : Suff P C c0 Q h0 fl a w (.out e) s.ks (stepOut s e) := by
  unfold stepOut
  split
  · trivial
  · rename_i q ks hk
    rw [hk]
    split
    · rename_i hn
      intro _ k
      cases e <;> first | cases hn | skip
      exact k _ _ _ (ok_same ok _ _)
    · rename_i hne
      intro _ k
      have := k _ _ _ (ok_same ok _ _)
      unfold Goal post
      cases e <;> first | exact this | cases hne
  · rename_i id ks hk
    rw [hk]
    cases e with
    | exit id' =>
      simp only
      split
      · rename_i he
        have he := Nat.eq_of_beq_eq_true he
        subst he
        intro _ k
        exact block_same (k _ _ _ (ok_same ok _ _))
      · rename_i he
        intro _ k
        exact block_other he (k _ _ _ (ok_same ok _ _))
    | normal => intro _ k; exact k _ _ _ (ok_same ok _ _)
    | goto l => intro _ k; exact k _ _ _ (ok_same ok _ _)
    | ret => intro _ k; exact k _ _ _ (ok_same ok _ _)
    | panic c => intro _ k; exact k _ _ _ (ok_same ok _ _)
    | outgrown => intro _ k; exact k _ _ _ (ok_same ok _ _)

theorem suff_step {fl : Bool} (ok : Ok P C h0 fl s h a w) : Suff P C c0 Q h0 fl a w s.p s.ks (step1 P C c0 u s) := by
  unfold step1
  split
  · rename_i p hp; rw [hp]; exact suff_code ok
  · rename_i p n hp
    rw [hp]
    split
    · rename_i hl
      intro _ k
      unfold Goal
      simp only
      rw [hl]
      exact wpList_nil (k _ _ _ (ok_same ok _ _))
    · rename_i o rest hl
      exact suff_op hl ok
  · rename_i e hp; rw [hp]; exact suff_out ok

theorem fin_good {fl : Bool} {T : Tgt} (ok : Ok P C h0 fl s h a w) (hT : T.all fun _ => (T.fin s).1 = (T.fin s).2) (hg : T.good C h0 (Goal P c0 Q) fl) : Goal P c0 Q s.p s.ks a w := by
  cases T with
  | new f =>
    obtain ⟨l, hl⟩ := Tgt.all_some hT
    simp [Tgt.fin] at hl
  | nv f =>
    obtain ⟨l, hl⟩ := Tgt.all_some hT
    simp [Tgt.fin] at hl
  | ok p ks E B F =>
    obtain ⟨l, hl⟩ := Tgt.all_some hT
    simp only [Tgt.fin, ends, wants, List.cons.injEq, Any.pt.injEq, Any.ov.injEq, Any.bs.injEq, Any.fs.injEq, and_true] at hl
    obtain ⟨⟨h1, h2⟩, h3, h4, h5⟩ := hl
    rw [h1, h2]
    have k : K C E B F h a w := ⟨ok.k.j.to h3 h4.symm, by rw [← h5]; exact ok.k.f⟩
    unfold Tgt.good at hg
    cases fl with
    | false => have := ok.same rfl; subst this; exact hg _ _ k
    | true => exact hg _ _ _ ok.sees k

theorem run_suff {fl : Bool} : ∀ (n : Nat) {s : St} {T : Tgt} {h : Vw} {a : Act} {w : World}, Ok P C h0 fl s h a w → (T.all fun l => ∀ w, (run P C c0 u fl n s T l w).1 = (run P C c0 u fl n s T l w).2) → T.good C h0 (Goal P c0 Q) fl → Goal P c0 Q s.p s.ks a w
  | 0, s, T, h, a, w, ok, hT, hg => fin_good ok (Tgt.all_mono hT fun l k => k w) hg
  | n + 1, s, T, h, a, w, ok, hT, hg => by
    have hs := suff_step (c0 := c0) (Q := Q) (u := u) ok
    cases hst : step1 P C c0 u s with
    | bad =>
      obtain ⟨l, hl⟩ := Tgt.all_some hT
      have := hl w
      unfold run at this
      rw [hst] at this
      simp at this
    | go s' e =>
      rw [hst] at hs
      have key : T.all fun l => ∀ w, (∀ x ∈ e w, x.1 = x.2) ∧ (run P C c0 u fl n s' T l w).1 = (run P C c0 u fl n s' T l w).2 := Tgt.all_mono hT fun l k w => by
        have := k w
        unfold run at this
        rw [hst] at this
        exact addE_eq this
      refine hs (fun w => ?_) fun h a w ok' => run_suff n ok' (Tgt.all_mono key fun l k w => (k w).2) hg
      obtain ⟨l, hl⟩ := Tgt.all_some key
      exact (hl w).1
    | fresh fx f e =>
      rw [hst] at hs
      cases T with
      | ok p ks E B F =>
        have := hT w
        unfold run at this
        rw [hst] at this
        simp at this
      | nv g =>
        obtain ⟨l, hl⟩ := Tgt.all_some (hT undef)
        have := hl w
        unfold run at this
        rw [hst] at this
        simp at this
      | new g =>
        have key : ∀ b, (g b).all fun l => ∀ w, ((fx && !fl) = false ∧ ∀ x ∈ e w, x.1 = x.2) ∧ (run P C c0 u fl n (f b) (g b) l w).1 = (run P C c0 u fl n (f b) (g b) l w).2 := fun b => Tgt.all_mono (hT b) fun l k w => by
          have := k w
          unfold run at this
          rw [hst] at this
          cases hfx : fx && !fl with
          | true => simp only [hfx] at this; simp at this
          | false =>
            simp only [hfx] at this
            have := addE_eq this
            exact ⟨⟨rfl, this.1⟩, this.2⟩
        obtain ⟨l, hl⟩ := Tgt.all_some (key 0)
        refine hs (fun w => (hl w).1.2) (fun hx => ?_) fun b h a w ok' => run_suff n ok' (Tgt.all_mono (key b) fun l k w => (k w).2) (hg b)
        have := (hl w).1.1
        rw [hx] at this
        simpa using this
    | freshV f e =>
      rw [hst] at hs
      cases T with
      | ok p ks E B F =>
        have := hT w
        unfold run at this
        rw [hst] at this
        simp at this
      | new g =>
        obtain ⟨l, hl⟩ := Tgt.all_some (hT 0)
        have := hl w
        unfold run at this
        rw [hst] at this
        simp at this
      | nv g =>
        have key : ∀ b, (g b).all fun l => ∀ w, (fl = true ∧ ∀ x ∈ e w, x.1 = x.2) ∧ (run P C c0 u fl n (f b) (g b) l w).1 = (run P C c0 u fl n (f b) (g b) l w).2 := fun b => Tgt.all_mono (hT b) fun l k w => by
          have := k w
          unfold run at this
          rw [hst] at this
          cases hfx : fl with
          | false => simp only [hfx] at this; simp at this
          | true =>
            subst hfx
            have := addE_eq this
            exact ⟨⟨rfl, this.1⟩, this.2⟩
        obtain ⟨l, hl⟩ := Tgt.all_some (key undef)
        exact hs (fun w => (hl w).1.2) (hl w).1.1 fun b h a w ok' => run_suff n ok' (Tgt.all_mono (key b) fun l k w => (k w).2) (hg b)

/-- A run of n steps. -/
theorem rx {p : Pt} {ks : List Kt} {E : List (Nat × Value)} {B : List Ent} {F : List Fac} (hK : K C E B F h a w) (fl : Bool) (n : Nat) (hs : List Hint) (cs : List (Nat × Value × Value)) (T : Tgt) (ho : owes P h hs) (hc : owesC cs)
    (hr : T.all fun l => ∀ w, (run P C c0 C.w0 fl n ⟨p, ks, E, B, F, hs, cs⟩ T l w).1 = (run P C c0 C.w0 fl n ⟨p, ks, E, B, F, hs, cs⟩ T l w).2) (k : T.good C h (Goal P c0 Q) fl) : Goal P c0 Q p ks a w :=
  run_suff n (s := ⟨p, ks, E, B, F, hs, cs⟩) ⟨hK, Sees.refl _, ho, hc, fun _ => rfl⟩ hr k

/-! ### What a run does not do -/
section more
variable {p : List Nat} {n : Nat} {ks : List Kt} {E : List (Nat × Value)} {B : List Ent} {F : List Fac} {d : Nat}

theorem goal_cond {c : Operand} {x y : Code} {t : Bool} (hK : K C E B F h a w) (hs : sub c0 p = .cond c x y) (hc : evE E c = some (.bool t)) (k1 : t = true → Goal P c0 Q (.code (0 :: p)) ks a w) (k2 : t = false → Goal P c0 Q (.code (1 :: p)) ks a w) : Goal P c0 Q (.code p) ks a w := by
  unfold Goal at k1 k2 ⊢
  simp only [sub, hs, child] at k1 k2 ⊢
  exact wp_cond_split (hK.j.fits.ev hc) k1 k2
def condOf : Code → Option Operand
  | .cond c _ _ => some c
  | _ => none
theorem condOf_some {c : Code} {x : Operand} (h : condOf c = some x) : ∃ y z, c = .cond x y z := by
  unfold condOf at h
  split at h
  · simp only [Option.some.injEq] at h; subst h; exact ⟨_, _, rfl⟩
  · cases h
/-- A test: t. -/
theorem x_true {t : Bool} (hK : K C E B F h a w) (hs : ((condOf (sub c0 p)).bind (evE E)) = some (.bool t)) (ht : t = true) (k : Goal P c0 Q (.code (0 :: p)) ks a w) : Goal P c0 Q (.code p) ks a w := by
  obtain ⟨c, hc, hv⟩ := Option.bind_eq_some_iff.1 hs
  obtain ⟨y, z, e⟩ := condOf_some hc
  exact goal_cond hK e hv (fun _ => k) (fun e => by rw [ht] at e; cases e)
theorem x_false {t : Bool} (hK : K C E B F h a w) (hs : ((condOf (sub c0 p)).bind (evE E)) = some (.bool t)) (ht : t = false) (k : Goal P c0 Q (.code (1 :: p)) ks a w) : Goal P c0 Q (.code p) ks a w := by
  obtain ⟨c, hc, hv⟩ := Option.bind_eq_some_iff.1 hs
  obtain ⟨y, z, e⟩ := condOf_some hc
  exact goal_cond hK e hv (fun e => by rw [ht] at e; cases e) (fun _ => k)
theorem x_split {t : Bool} (hK : K C E B F h a w) (hs : ((condOf (sub c0 p)).bind (evE E)) = some (.bool t)) (k1 : t = true → Goal P c0 Q (.code (0 :: p)) ks a w) (k2 : t = false → Goal P c0 Q (.code (1 :: p)) ks a w) : Goal P c0 Q (.code p) ks a w := by
  obtain ⟨c, hc, hv⟩ := Option.bind_eq_some_iff.1 hs
  obtain ⟨y, z, e⟩ := condOf_some hc
  exact goal_cond hK e hv k1 k2

/-- The next operation is a call of f at args; its result goes to d. -/
def callAt (P : Program) (C : Fx) (E : List (Nat × Value)) (ops : Array Oper) (l : List Oper) (d : Nat) (w : World) : List Any :=
  match l with
  | o :: _ => match gKnown E ops o with
    | some true => match o.dst with
      | some d' => [.b (Nat.beq d' d && Nat.blt d C.N && opsKnown E o), .r ((execOp (evD E) o).run P w)]
      | none => [.bad]
    | _ => [.bad]
  | [] => [.bad]
theorem callAt_parts {l : List Oper} {ops : Array Oper} {f : FuncId} {args : Array Value} (hk : ∀ w, callAt P C E ops l d w = [.b true, .r (.ok (.enter f args) w)]) :
    ∃ o r, l = o :: r ∧ gKnown E ops o = some true ∧ o.dst = some d ∧ d < C.N ∧ opsKnown E o = true ∧ ∀ w, (execOp (evD E) o).run P w = .ok (.enter f args) w := by
  cases l with
  | nil => have := hk world0; simp [callAt] at this
  | cons o r =>
    have h0 := hk world0
    unfold callAt at h0 hk
    split at h0
    · rename_i heq
      simp only [List.cons.injEq] at heq
      obtain ⟨rfl, rfl⟩ := heq
      split at h0
      · rename_i hg
        split at h0
        · rename_i d' hd
          simp only [List.cons.injEq, Any.b.injEq, Bool.and_eq_true] at h0
          obtain ⟨⟨⟨h1, h2⟩, h3⟩, -⟩ := h0
          refine ⟨_, _, rfl, hg, by rw [hd, Nat.eq_of_beq_eq_true h1], by have := Nat.le_of_ble_eq_true h2; omega, h3, fun w => ?_⟩
          have := hk w
          simp only [hg, hd, List.cons.injEq, Any.r.injEq, and_true] at this
          exact this.2
        · simp at h0
      · simp at h0
    · simp at h0

theorem K.facs {h' : Vw} (hK : K C E B F h a w) (s : Sees h h') : ∀ x ∈ F, Cells h' x.1 x.2.1 x.2.2 := fun x hx => (hK.f x hx).sees s

/-- A call whose value is not known ahead. -/
theorem x_call {f : FuncId} {args : Array Value} {R : Value → Vw → Prop} (hK : K C E B F h a w) (d : Nat) (hc : C0 P f args ⟨w, blk B ++ C.bad0⟩ R) (hk : ∀ w, callAt P C E (opsAt c0 p) ((opsAt c0 p).toList.drop n) d w = [.b true, .r (.ok (.enter f args) w)])
    (k : ∀ v h' a w, Sees h h' → R v h' → K C ((d, v) :: E) B F h' a w → Goal P c0 Q (.ops p (n + 1)) ks a w) : Goal P c0 Q (.ops p n) ks a w := by
  obtain ⟨o, r, hl, hg, hd, hlt, hkn, hrun⟩ := callAt_parts hk
  have hr := drop_cons hl
  refine goal_unguard hl (gKnown_wanted hK.j.fits hg) ?_
  refine s_call (o := { o with guard := none }) hK.j d hc (okk (s := ⟨.out .ret, [], E, B, F, [], []⟩) hd hlt hkn) hrun ?_
  intro v h' a' w' s r1 j
  rw [hr]
  exact k v h' a' w' s r1 ⟨j, hK.facs s⟩
/-- .. that writes own block i. -/
theorem x_call1 {f : FuncId} {args : Array Value} {R : Value → List Value → Vw → Prop} (hK : K C E B F h a w) (d : Nat) (i : Nat) {b : Nat} {cs : List Value} (hc : C1 P f args ⟨w, blk B ++ C.bad0⟩ b cs R) (hB : B[i]? = some (.box b cs)) (hk : ∀ w, callAt P C E (opsAt c0 p) ((opsAt c0 p).toList.drop n) d w = [.b true, .r (.ok (.enter f args) w)])
    (k : ∀ v cs' h' a w, Sees h h' → R v cs' h' → K C ((d, v) :: E) (B.set i (.box b cs')) F h' a w → Goal P c0 Q (.ops p (n + 1)) ks a w) : Goal P c0 Q (.ops p n) ks a w := by
  obtain ⟨o, r, hl, hg, hd, hlt, hkn, hrun⟩ := callAt_parts hk
  have hr := drop_cons hl
  refine goal_unguard hl (gKnown_wanted hK.j.fits hg) ?_
  refine s_call1 (o := { o with guard := none }) hK.j d i hc hB (okk (s := ⟨.out .ret, [], E, B, F, [], []⟩) hd hlt hkn) hrun ?_
  intro v cs' h' a' w' s r1 j
  rw [hr]
  exact k v cs' h' a' w' s r1 ⟨j, hK.facs s⟩

def loopOf : Code → Bool
  | .loop _ => true
  | _ => false
/-- A loop. -/
theorem x_loop {ι : Type} (I : ι → Act → World → Prop) (m : ι → Nat) (i0 : ι) (hs : loopOf (sub c0 p) = true) (h0 : I i0 a w)
    (round : ∀ i a w, I i a w → Goal P c0 (Exit.then (fun a' w' => ∃ i', I i' a' w' ∧ m i' < m i) (post P c0 Q ks)) (.code (0 :: p)) [] a w) : Goal P c0 Q (.code p) ks a w := by
  unfold loopOf at hs
  split at hs
  · rename_i c hc
    unfold Goal
    simp only [hc]
    refine c_loop I m i0 h0 fun i a w hi => ?_
    have := round i a w hi
    simpa only [Goal, sub, hc, child, post] using this
  · cases hs
theorem x_round {I : Act → World → Prop} {Q' : Exit → Act → World → Prop} (k : I a w) : Goal P c0 (Exit.then I Q') (.out .normal) [] a w := k
theorem x_leave {I : Act → World → Prop} {e : Exit} (hne : isNorm e = false) (k : Goal P c0 Q (.out e) ks a w) : Goal P c0 (Exit.then I (post P c0 Q ks)) (.out e) [] a w := by
  have k : post P c0 Q ks e a w := k
  show Exit.then I (post P c0 Q ks) e a w
  cases e <;> first | exact k | cases hne
/-- The append of a row that is known cells. -/
theorem x_end {e : Exit} (k : Q e a w) : Goal P c0 Q (.out e) [] a w := k
theorem x_start (k : Goal P c0 Q (.code []) [] a w) : c0.wp P Q a w := k

theorem K.nilrow (hK : K C E B F h a w) (e : TypeId) (k : Nat) : K C E (.row (.slice none 0 0) e k [] :: B) F h a w := ⟨hK.j.nilrow e k, hK.f⟩
theorem K.drop (hK : K C E B F h a w) (i : Nat) : K C E (B.eraseIdx i) F h a w := ⟨hK.j.drop i, hK.f⟩
theorem K.to {E' : List (Nat × Value)} {B' : List Ent} {F' : List Fac} (hK : K C E B F h a w) (hE : E'.map (fun p => lookup E p.1) = E'.map (fun p => some p.2)) (hB : B' = B) (hF : F' = F) : K C E' B' F' h a w := ⟨hK.j.to hE hB, by rw [hF]; exact hK.f⟩
theorem K.tof {F' : List Fac} (hK : K C E B F h a w) (ix : List Nat) (hF : ix.map (fun i => F[i]?) = F'.map some) : K C E B F' h a w := ⟨hK.j, fun x hx => by
  have : some x ∈ F'.map some := List.mem_map.2 ⟨x, hx, rfl⟩
  rw [← hF] at this
  obtain ⟨i, -, hi⟩ := List.mem_map.1 this
  exact hK.f x (List.mem_of_getElem? hi)⟩
theorem K.rew (hK : K C E B F h a w) (d : Nat) {v v' : Value} (hv : v = v') (hd : lookup E d = some v) : K C ((d, v') :: E) B F h a w := ⟨hK.j.rew d hv hd, hK.f⟩
theorem K.fact (hK : K C E B F h a w) {b o : Nat} {cs : List Value} (c : Cells h b o cs) : K C E B ((b, o, cs) :: F) h a w := ⟨hK.j, fun x hx => by
  rcases List.mem_cons.1 hx with rfl | hx
  · exact c
  · exact hK.f x hx⟩
theorem K.form (hK : K C E B F h a w) (i : Nat) {v : Value} {e : TypeId} {k : Nat} {l : List (List Value)} (hB : B[i]? = some (.row v e k l)) : ∃ A c, v = .slice A l.length c ∧ l.length ≤ c ∧ c ≤ maxLen := hK.j.form i hB
theorem K.frozen (hK : K C E B F h a w) (i : Nat) {v : Value} {e : TypeId} {k : Nat} {l : List (List Value)} (hB : B[i]? = some (.row v e k l)) (hout : RS ⟨w, C.bad0⟩ k v l) : ∃ h', Sees h h' ∧ RS h' k v l ∧ K C E (B.eraseIdx i) F h' a w := by
  obtain ⟨h', s, r, j⟩ := hK.j.frozen i hB hout
  exact ⟨h', s, r, j, hK.facs s⟩
/-- A row of the call's own, lent to one that writes own block g. -/
theorem K.rowLent (hK : K C E B F h a w) (i j : Nat) {v : Value} {e : TypeId} {k g : Nat} {cs : List Value} {l : List (List Value)} (hB : B[i]? = some (.row v e k l)) (hj : B[j]? = some (.box g cs)) (hne : Nat.beq i j = false) : RS ⟨w, [g]⟩ k v l :=
  row_rs (hK.j.ents _ (List.mem_of_getElem? hB)) fun b hb hm => ent_apart hK.j.nodup hB hj (Nat.ne_of_beq_eq_false hne) b (by simp [Ent.blocks, hb]) (by simpa [Ent.blocks] using hm)
theorem K.lentSees (hK : K C E B F h a w) (j : Nat) {g : Nat} {cs : List Value} (hj : B[j]? = some (.box g cs)) : Sees h ⟨w, [g]⟩ :=
  hK.j.sees.less fun b hb => by
    obtain rfl := List.mem_singleton.1 hb
    exact List.mem_append_left _ (List.mem_flatMap.2 ⟨_, List.mem_of_getElem? hj, by simp [Ent.blocks]⟩)
/-- The value of a pure operation, shown by hand. -/
def opN (c0 : Code) (p : List Nat) (n : Nat) : Oper := opAt (opsAt c0 p) n
def goodOp (C : Fx) (E : List (Nat × Value)) (ops : Array Oper) (n d : Nat) : Bool :=
  match ops.toList.drop n with
  | o :: _ => (match gKnown E ops o with | some true => true | _ => false) && (match o.dst with | some x => Nat.beq x d | none => false) && Nat.blt d C.N && opsKnown E o
  | [] => false
theorem drop_opAt {ops : Array Oper} {o : Oper} {r : List Oper} (h : ops.toList.drop n = o :: r) : opAt ops n = o := by
  have : (ops.toList.drop n)[0]? = some o := by rw [h]; rfl
  rw [List.getElem?_drop, Nat.add_zero] at this
  unfold opAt
  rw [List.getD_eq_getElem?_getD, this]; rfl
theorem x_pure (hK : K C E B F h a w) (d : Nat) (v : Value) (hk : goodOp C E (opsAt c0 p) n d = true) (hr : ∀ w, (execOp (evD E) (opAt (opsAt c0 p) n)).run P w = .ok (.value v) w) (k : ∀ a w, K C ((d, v) :: E) B F h a w → Goal P c0 Q (.ops p (n + 1)) ks a w) : Goal P c0 Q (.ops p n) ks a w := by
  unfold goodOp at hk
  split at hk
  · rename_i o r hl
    simp only [Bool.and_eq_true] at hk
    obtain ⟨⟨⟨k1, k2⟩, k3⟩, k4⟩ := hk
    have hr' := drop_cons hl
    have hg : gKnown E (opsAt c0 p) o = some true := by
      split at k1
      · assumption
      · cases k1
    have hd : o.dst = some d := by
      split at k2
      · rename_i x e; rw [e, Nat.eq_of_beq_eq_true k2]
      · cases k2
    have hlt : d < C.N := by simpa [Nat.blt_eq] using k3
    refine goal_unguard hl (gKnown_wanted hK.j.fits hg) (s_pure (o := { o with guard := none }) hK.j d v (okk (s := ⟨.out .ret, [], E, B, F, [], []⟩) hd hlt k4) (fun w => ?_) fun a' j => ?_)
    · have := hr w
      rw [drop_opAt hl] at this
      exact this
    · rw [hr']
      exact k _ _ ⟨j, hK.f⟩
  · cases hk

theorem RS.cell {h : Vw} {k : Nat} {b off n cap : Nat} {l : List (List Value)} (r : RS h k (.slice (some ⟨b, off, none⟩) n cap) l) {i : Nat} {x : List Value} (hi : l[i]? = some x) : Cells h b (off + i * k) x := by
  obtain ⟨b', off', e, -, c⟩ := r.row hi
  simp only [Option.some.injEq, Addr.mk.injEq, and_true] at e
  obtain ⟨rfl, rfl⟩ := e
  exact c
end more

/-- A function is walked so. -/
theorem x_con {f : FuncId} {fn : Func} {c : Code} {args : Array Value} {N : Nat} {Bi : List (Nat × List Value)} {R : Value → List (List Value) → Vw → Prop} (hf : P.funcs[f]? = some fn) (hb : fn.body = some c) (hN : fn.ntmps = N) (hle : Nat.ble args.size N = true)
    (body : BoxesOk h.w Bi → (∀ x ∈ Bi, x.1 ∈ h.bad) → ∀ (Q : Exit → Act → World → Prop),
      (∀ {E : List (Nat × Value)} {B : List Ent} {F : List Fac} {h' : Vw} {a : Act} {w : World} (vs : List Value) (Bp : List Ent) (Bo : List (Nat × List Value)), K ⟨N, h.w, h.bad, Bi.map (·.1)⟩ E B F h' a w → Res P a w fn.results.toList vs → B = Bp ++ Bo.map (fun x => .box x.1 x.2) → Bo.map (·.1) = Bi.map (·.1) → R (pack vs) (Bo.map (·.2)) ⟨w, h.bad⟩ → Q .ret a w ∧ Q .normal a w) →
      ∀ a w, K ⟨N, h.w, h.bad, Bi.map (·.1)⟩ (argE 0 args.toList) (Bi.map (fun x => .box x.1 x.2)) [] h a w → Goal P c Q (.code []) [] a w) : Con P f args h Bi R :=
  con_start hf hb hN hle fun b1 b2 Q hQ a w hJ => body b1 b2 Q (fun vs Bp Bo hK => hQ vs Bp Bo hK.j) a w ⟨hJ, fun x hx => by cases hx⟩
end

end Go.Proofs.Yteolcggpflnpoaa
