/-
  A walk by certificates, many steps at once: where a walk stands, a run that the kernel reckons; regions that draw their order; maps.
-/
import Derived.Test.YtgjndkphfabnnaaSz
import Derived.MapKept
import Derived.Carry
namespace Go.Proofs.Ytgjndkphfabnnaa
open Go.RowKit


/-! ### Where a walk stands -/
def child (c : Code) (n : Nat) : Code :=
  match c with
  | .seq a b => match n with | 0 => a | _ => b
  | .cond _ a b => match n with | 0 => a | _ => b
  | .block _ b => b
  | .loop b => b
  | .scope b => b
  | c => c
/-- The part of c at a path (its last step first). -/
def sub (c : Code) : List Nat → Code
  | [] => c
  | n :: p => child (sub c p) n
def opsOf : Code → Array Oper
  | .region _ ops _ => ops
  | _ => #[]
def opsAt (c : Code) (p : List Nat) : Array Oper := opsOf (sub c p)

/-- What comes behind: code, a block's end. -/
inductive Kt where
  | seq (p : List Nat)
  | block (id : Nat)
inductive Pt where
  | code (p : List Nat)
  | ops (p : List Nat) (n : Nat)
  | out (e : Exit)

def post (P : Program) (c0 : Code) (Q : Exit → Act → World → Prop) : List Kt → Exit → Act → World → Prop
  | [] => Q
  | .seq p :: ks => Exit.then ((sub c0 p).wp P (post P c0 Q ks)) (post P c0 Q ks)
  | .block id :: ks => Exit.inBlock id (post P c0 Q ks)

def Goal (P : Program) (c0 : Code) (Q : Exit → Act → World → Prop) (p : Pt) (ks : List Kt) (a : Act) (w : World) : Prop :=
  match p with
  | .code p => (sub c0 p).wp P (post P c0 Q ks) a w
  | .ops p n => wpList P (opsAt c0 p) (post P c0 Q ks) ((opsAt c0 p).toList.drop n) a w
  | .out e => post P c0 Q ks e a w

/-! ### The state: known cells with it -/
abbrev Fac := Nat × Nat × List Value
structure K (C : Fx) (E : List (Nat × Value)) (B : List Ent) (F : List Fac) (h : Vw) (a : Act) (w : World) : Prop where
  j : J C E B h a w
  f : ∀ x ∈ F, Cells h x.1 x.2.1 x.2.2

/-! ### One step -/
inductive Any where
  | v (x : Value) | ls (x : List (List Value)) | r (x : Result Next) | b (x : Bool) | ov (x : List (Option Value)) | bs (x : List Ent) | fs (x : List Fac) | pt (p : Pt) (k : List Kt) | bad

inductive Hint where
  | b (i o : Nat)      -- a load, a store: own block i, at o
  | f (i o : Nat)      -- a load: known cells i, at o
  | own                -- a new block, the call's own
  | fix                -- .. known, never written
  | ix (b off n cap k : Nat)      -- the address of element k of a slice
  | pu                 -- it is reckoned
  | cl (f : FuncId) (args : Array Value) (v : Value)      -- a call that gives v
  | ap (i j : Nat) (l ns : List (List Value))      -- an append to own row i, which holds l, of known cells j, which are the rows ns

structure St where
  p : Pt
  ks : List Kt
  E : List (Nat × Value)
  B : List Ent
  F : List Fac
  hs : List Hint
  cs : List (Nat × Value × Value)

inductive Stp where
  | go (s : St) (e : World → List (Any × Any))
  | fresh (fx : Bool) (f : Nat → St) (e : World → List (Any × Any))
  | freshV (f : Value → St) (e : World → List (Any × Any))
  | bad

def castOf : List (Nat × Value × Value) → Nat → Option (Value × Value)
  | [], _ => none
  | p :: l, d => match Nat.beq p.1 d with
    | true => some p.2
    | false => castOf l d

def world0 : World := { heap := #[], tape := fun _ _ => 0, drawn := 0, os := default, output := #[] }
def cellsMade (P : Program) (E : List (Nat × Value)) (o : Oper) : List Value :=
  match (execOp (evD E) o).run P world0 with
  | .ok _ w => match w.heap.toList with
    | .cells c _ _ :: _ => c.toList
    | _ => []
  | _ => []
def elemT (P : Program) (t : TypeId) : TypeId :=
  match P.underlying t with
  | some (.slice e) => e
  | _ => t
def madeT (P : Program) : Op → TypeId
  | .alloc t => t
  | .box t _ => t
  | .buildSlice t _ _ => elemT P t
  | _ => 0
def madeV : Op → Nat → Value
  | .buildSlice _ n _, b => .slice (some ⟨b, 0, none⟩) n n
  | _, b => .pointer (some ⟨b, 0, none⟩)

def stepPure (P : Program) (u : World) (s : St) (p : List Nat) (n : Nat) (o : Oper) (d : Nat) (hs : List Hint) : Stp :=
  match (execOp (evD s.E) o).run P u with
  | .ok (.value v) _ => match castOf s.cs d with
    | none => .go { s with p := .ops p (n + 1), E := (d, v) :: s.E, hs := hs } fun w => [(.r ((execOp (evD s.E) o).run P w), .r (.ok (.value v) w))]
    | some (old, new) => .go { s with p := .ops p (n + 1), E := (d, new) :: s.E, hs := hs } fun w => [(.r ((execOp (evD s.E) o).run P w), .r (.ok (.value old) w))]
  | _ => .bad
def stepMade (P : Program) (s : St) (p : List Nat) (n : Nat) (o : Oper) (d : Nat) : Stp :=
  match s.hs with
  | .own :: hs => .fresh false (fun b => { s with p := .ops p (n + 1), E := (d, madeV o.op b) :: s.E, B := .box b (cellsMade P s.E o) :: s.B, hs := hs }) fun w => [(.r ((execOp (evD s.E) o).run P w), .r (.ok (.value (madeV o.op w.heap.size)) (w.alloc (.cells (cellsMade P s.E o).toArray (madeT P o.op)))))]
  | .fix :: hs => .fresh true (fun b => { s with p := .ops p (n + 1), E := (d, madeV o.op b) :: s.E, F := (b, 0, cellsMade P s.E o) :: s.F, hs := hs }) fun w => [(.r ((execOp (evD s.E) o).run P w), .r (.ok (.value (madeV o.op w.heap.size)) (w.alloc (.cells (cellsMade P s.E o).toArray (madeT P o.op)))))]
  | _ => .bad
def stepLoad (P : Program) (s : St) (p : List Nat) (n : Nat) (t : TypeId) (x : Operand) (d : Nat) : Stp :=
  match s.hs with
  | .b i off :: hs => match s.B[i]? with
    | some (.box b cs) => match loadsAs P t cs off with
      | some v => .go { s with p := .ops p (n + 1), E := (d, v) :: s.E, hs := hs } fun _ => [(.v (evD s.E x), .v (.pointer (some ⟨b, off, none⟩)))]
      | none => .bad
    | _ => .bad
  | .f i off :: hs => match s.F[i]? with
    | some (b, o0, cs) => match loadsAs P t cs off with
      | some v => .go { s with p := .ops p (n + 1), E := (d, v) :: s.E, hs := hs } fun _ => [(.v (evD s.E x), .v (.pointer (some ⟨b, o0 + off, none⟩)))]
      | none => .bad
    | _ => .bad
  | _ => .bad
def stepStore (P : Program) (s : St) (p : List Nat) (n : Nat) (t : TypeId) (x y : Operand) : Stp :=
  match s.hs with
  | .b i off :: hs => match s.B[i]? with
    | some (.box b cs) => .go { s with p := .ops p (n + 1), B := s.B.set i (.box b (putMany cs off (evD s.E y).cells.toList)), hs := hs } fun _ => [(.v (evD s.E x), .v (.pointer (some ⟨b, off, none⟩))), (.b (storesOk P t cs off (evD s.E y)), .b true)]
    | _ => .bad
  | _ => .bad
def stepIx (P : Program) (u : World) (s : St) (p : List Nat) (n : Nat) (o : Oper) (t : TypeId) (x y : Operand) (d : Nat) : Stp :=
  match P.underlying t with
  | some (.slice e) => match s.hs with
    | .ix b off m cap k :: hs => match P.info? e with
      | some i => .go { s with p := .ops p (n + 1), E := (d, .pointer (some ⟨b, off + k * i.size, none⟩)) :: s.E, hs := hs } fun _ => [(.v (evD s.E x), .v (.slice (some ⟨b, off, none⟩) m cap)), (.v (evD s.E y), .v (.int .i64 (k : Int)))]
      | none => .bad
    | .pu :: hs => stepPure P u s p n o d hs
    | _ => .bad
  | _ => stepPure P u s p n o d s.hs
def stepApp (P : Program) (s : St) (p : List Nat) (n : Nat) (o : Oper) (c : Call) (d : Nat) : Stp :=
  match c.args.toList, c.argTypes.toList, s.hs with
  | [y, z], [t, t'], .ap i j l ns :: hs => match s.B[i]?, s.F[j]?, evD s.E z, P.underlying t with
    | some (.row v te kk l0), some (b, 0, cs), .slice _ m cp, some (.slice te') => match P.info? te with
      | some inf => match inf.zero with
        | some zv => .freshV (fun u => { s with p := .ops p (n + 1), E := (d, .slice (sA u) (sN u) (sC u)) :: s.E, B := s.B.set i (.row (.slice (sA u) (sN u) (sC u)) te kk (l ++ ns)), hs := hs })
            fun _ => [(.v (evD s.E y), .v v), (.v (evD s.E z), .v (.slice (some ⟨b, 0, none⟩) m cp)), (.ls l0, .ls l), (.ls [cs], .ls [ns.flatten]), (.b (Nat.beq t' t && Nat.beq o.type t && Nat.beq te' te && Nat.beq inf.size kk && Nat.beq zv.cells.size kk && Nat.ble inf.bytes 1000000 && chkRows kk ns m), .b true)]
        | none => .bad
      | none => .bad
    | _, _, _, _ => .bad
  | _, _, _ => .bad
def stepCall (P : Program) (u : World) (s : St) (p : List Nat) (n : Nat) (o : Oper) (c : Call) (d : Nat) : Stp :=
  match c.callee with
  | .value _ => match s.hs with
    | .cl f args v :: hs => .go { s with p := .ops p (n + 1), E := (d, v) :: s.E, hs := hs } fun w => [(.r ((execOp (evD s.E) o).run P w), .r (.ok (.enter f args) w))]
    | _ => .bad
  | .builtin .append => stepApp P s p n o c d
  | _ => stepPure P u s p n o d s.hs
def stepOp (P : Program) (C : Fx) (u : World) (s : St) (p : List Nat) (n : Nat) (ops : Array Oper) (o : Oper) : Stp :=
  match gKnown s.E ops o with
  | none => .bad
  | some false => match o.dst with
    | some d => match Nat.blt d C.N with
      | true => .go { s with p := .ops p (n + 1), E := (d, undef) :: s.E } fun _ => []
      | false => .bad
    | none => .go { s with p := .ops p (n + 1) } fun _ => []
  | some true => match opsKnown s.E o with
    | false => .bad
    | true => match o.dst with
      | none => match o.op with
        | .store t x y => stepStore P s p n t x y
        | _ => .bad
      | some d => match Nat.blt d C.N with
        | false => .bad
        | true => match o.op with
          | .load t x => stepLoad P s p n t x d
          | .alloc _ => stepMade P s p n o d
          | .box _ _ => stepMade P s p n o d
          | .buildSlice _ _ _ => stepMade P s p n o d
          | .indexAddr t x y => stepIx P u s p n o t x y d
          | .call c => stepCall P u s p n o c d
          | _ => stepPure P u s p n o d s.hs

def stepCode (s : St) (p : List Nat) : Code → Stp
  | .skip => .go { s with p := .out .normal } fun _ => []
  | .label _ => .go { s with p := .out .normal } fun _ => []
  | .seq _ _ => .go { s with p := .code (0 :: p), ks := .seq (1 :: p) :: s.ks } fun _ => []
  | .block id _ => .go { s with p := .code (0 :: p), ks := .block id :: s.ks } fun _ => []
  | .exit id => .go { s with p := .out (.exit id) } fun _ => []
  | .ret => .go { s with p := .out .ret } fun _ => []
  | .cond c _ _ => match evE s.E c with
    | some (.bool true) => .go { s with p := .code (0 :: p) } fun _ => []
    | some (.bool false) => .go { s with p := .code (1 :: p) } fun _ => []
    | _ => .bad
  | .region _ _ draw => match draw with
    | false => .go { s with p := .ops p 0 } fun _ => []
    | true => .bad
  | _ => .bad
def isNorm : Exit → Bool
  | .normal => true
  | _ => false
def stepOut (s : St) (e : Exit) : Stp :=
  match s.ks with
  | [] => .bad
  | .seq q :: ks => match isNorm e with
    | true => .go { s with p := .code q, ks := ks } fun _ => []
    | false => .go { s with p := .out e, ks := ks } fun _ => []
  | .block id :: ks => match e with
    | .exit id' => match Nat.beq id' id with
      | true => .go { s with p := .out .normal, ks := ks } fun _ => []
      | false => .go { s with p := .out (.exit id'), ks := ks } fun _ => []
    | e => .go { s with p := .out e, ks := ks } fun _ => []

def step1 (P : Program) (C : Fx) (c0 : Code) (u : World) (s : St) : Stp :=
  match s.p with
  | .code p => stepCode s p (sub c0 p)
  | .ops p n => match (opsAt c0 p).toList.drop n with
    | [] => .go { s with p := .out .normal } fun _ => []
    | o :: _ => stepOp P C u s p n (opsAt c0 p) o
  | .out e => stepOut s e

/-! ### A run -/
/-- Where a run ends, behind new blocks. -/
inductive Tgt where
  | ok (p : Pt) (ks : List Kt) (E : List (Nat × Value)) (B : List Ent) (F : List Fac)
  | new (f : Nat → Tgt)
  | nv (f : Value → Tgt)
inductive Nm where
  | b (n : Nat)
  | v (x : Value)

def ends (s : St) (E : List (Nat × Value)) : List Any := [.pt s.p s.ks, .ov (E.map fun p => lookup s.E p.1), .bs s.B, .fs s.F]
def wants (p : Pt) (ks : List Kt) (E : List (Nat × Value)) (B : List Ent) (F : List Fac) : List Any := [.pt p ks, .ov (E.map fun p => some p.2), .bs B, .fs F]
def Tgt.fin (s : St) : Tgt → List Any × List Any
  | .ok p ks E B F => (ends s E, wants p ks E B F)
  | _ => ([.bad], [])
def addE (e : List (Any × Any)) (r : List Any × List Any) : List Any × List Any := (e.map (·.1) ++ r.1, e.map (·.2) ++ r.2)
/-- The run's equations, where its new blocks are called l. -/
def run (P : Program) (C : Fx) (c0 : Code) (u : World) (fl : Bool) : Nat → St → Tgt → List Nm → World → List Any × List Any
  | 0, s, T, _, _ => T.fin s
  | n + 1, s, T, l, w => match step1 P C c0 u s with
    | .go s' e => addE (e w) (run P C c0 u fl n s' T l w)
    | .fresh fx f e => match T, l, fx && !fl with
      | .new g, .b b :: l, false => addE (e w) (run P C c0 u fl n (f b) (g b) l w)
      | _, _, _ => ([.bad], [])
    | .freshV f e => match T, l, fl with
      | .nv g, .v x :: l, true => addE (e w) (run P C c0 u fl n (f x) (g x) l w)
      | _, _, _ => ([.bad], [])
    | .bad => ([.bad], [])

def Tgt.all : Tgt → (List Nm → Prop) → Prop
  | .new f, q => ∀ b, (f b).all fun l => q (.b b :: l)
  | .nv f, q => ∀ b, (f b).all fun l => q (.v b :: l)
  | .ok .., q => q []
/-- What is owed behind a run: the view moves on (fl), or stays. -/
def Tgt.good (C : Fx) (h : Vw) (G : Pt → List Kt → Act → World → Prop) (fl : Bool) : Tgt → Prop
  | .ok p ks E B F => match fl with
    | false => ∀ a w, K C E B F h a w → G p ks a w
    | true => ∀ h' a w, Sees h h' → K C E B F h' a w → G p ks a w
  | .new f => ∀ b, (f b).good C h G fl
  | .nv f => ∀ b, (f b).good C h G fl
/-- What hints owe. -/
def owes (P : Program) (h : Vw) : List Hint → Prop
  | [] => True
  | .ix _ _ n _ k :: l => k < n ∧ owes P h l
  | .cl f args v :: l => (∀ H, Sees h H → C0 P f args H fun r _ => r = v) ∧ owes P h l
  | .ap _ _ l0 ns :: l => l0.length + ns.length ≤ 100000000 ∧ owes P h l
  | _ :: l => owes P h l
def owesC : List (Nat × Value × Value) → Prop
  | [] => True
  | p :: l => p.2.1 = p.2.2 ∧ owesC l

section
variable {P : Program} {C : Fx} {c0 : Code} {u : World} {Q : Exit → Act → World → Prop} {h h0 : Vw} {a : Act} {w : World} {s s' : St} {T : Tgt}

theorem Tgt.all_mono {q q' : List Nm → Prop} : ∀ {T : Tgt}, T.all q → (∀ l, q l → q' l) → T.all q'
  | .ok .., h, k => k _ h
  | .new _, h, k => fun b => Tgt.all_mono (h b) fun l => k (.b b :: l)
  | .nv _, h, k => fun b => Tgt.all_mono (h b) fun l => k (.v b :: l)
theorem Tgt.all_some {q : List Nm → Prop} : ∀ {T : Tgt}, T.all q → ∃ l, q l
  | .ok .., h => ⟨_, h⟩
  | .new f, h => by obtain ⟨l, hl⟩ := Tgt.all_some (h 0); exact ⟨_, hl⟩
  | .nv f, h => by obtain ⟨l, hl⟩ := Tgt.all_some (h undef); exact ⟨_, hl⟩

theorem addE_eq : ∀ {e : List (Any × Any)} {r : List Any × List Any}, (addE e r).1 = (addE e r).2 → (∀ x ∈ e, x.1 = x.2) ∧ r.1 = r.2
  | [], r, h => ⟨by simp, by simpa [addE] using h⟩
  | x :: e, r, h => by
    simp only [addE, List.map_cons, List.cons_append, List.cons.injEq] at h
    have := addE_eq (e := e) (r := r) h.2
    refine ⟨fun y hy => ?_, this.2⟩
    rcases List.mem_cons.1 hy with rfl | hy
    · exact h.1
    · exact this.1 y hy

theorem castOf_owes : ∀ {l : List (Nat × Value × Value)} {d : Nat} {p : Value × Value}, owesC l → castOf l d = some p → p.1 = p.2
  | q :: l, d, p, h, e => by
    unfold castOf at e
    split at e
    · simp only [Option.some.injEq] at e; subst e; exact h.1
    · exact castOf_owes h.2 e

/-- What a step keeps. -/
structure Ok (P : Program) (C : Fx) (h0 : Vw) (fl : Bool) (s : St) (h : Vw) (a : Act) (w : World) : Prop where
  k : K C s.E s.B s.F h a w
  sees : Sees h0 h
  owes : owes P h0 s.hs
  owesC : owesC s.cs
  same : fl = false → h = h0

def Suff (P : Program) (C : Fx) (c0 : Code) (Q : Exit → Act → World → Prop) (h0 : Vw) (fl : Bool) (a : Act) (w : World) (p : Pt) (ks : List Kt) : Stp → Prop
  | .go s' e => (∀ w, ∀ x ∈ e w, x.1 = x.2) → (∀ h a w, Ok P C h0 fl s' h a w → Goal P c0 Q s'.p s'.ks a w) → Goal P c0 Q p ks a w
  | .fresh fx f e => (∀ w, ∀ x ∈ e w, x.1 = x.2) → (fx = true → fl = true) → (∀ b h a w, Ok P C h0 fl (f b) h a w → Goal P c0 Q (f b).p (f b).ks a w) → Goal P c0 Q p ks a w
  | .freshV f e => (∀ w, ∀ x ∈ e w, x.1 = x.2) → fl = true → (∀ b h a w, Ok P C h0 fl (f b) h a w → Goal P c0 Q (f b).p (f b).ks a w) → Goal P c0 Q p ks a w
  | .bad => True

theorem drop_cons {l : List Oper} {n : Nat} {o : Oper} {r : List Oper} (h : l.drop n = o :: r) : r = l.drop (n + 1) := by
  have : (l.drop n).tail = r := by rw [h]; rfl
  rw [← this, List.tail_drop]

section ops
variable {p : List Nat} {n : Nat} {o : Oper} {rest : List Oper} {d : Nat} {fl : Bool}

theorem goal_unguard (hl : (opsAt c0 p).toList.drop n = o :: rest) {ks : List Kt} (hw : Region.wanted o (yielded (opsAt c0 p) a.tmps) = true)
    (k : wpList P (opsAt c0 p) (post P c0 Q ks) ({ o with guard := none } :: rest) a w) : Goal P c0 Q (.ops p n) ks a w := by
  unfold Goal
  simp only
  rw [hl]
  unfold wpList at k ⊢
  rw [if_pos hw]
  rw [if_pos (by simp [Region.wanted])] at k
  exact k

theorem ok_put (ok : Ok P C h0 fl s h a w) (v : Value) (hd : o.dst = some d) (hlt : d < C.N) {pt : Pt} {hs : List Hint} (ho : owes P h0 hs) :
    Ok P C h0 fl { s with p := pt, E := (d, v) :: s.E, hs := hs } h (a.put o.dst v) w :=
  ⟨⟨ok.k.j.putd v hd hlt, ok.k.f⟩, ok.sees, ho, ok.owesC, ok.same⟩

theorem okk (hd : o.dst = some d) (hlt : d < C.N) (hk : opsKnown s.E o = true) : okOp C s.E { o with guard := none } d = true := by
  have hk' : opsKnown s.E { o with guard := none } = true := hk
  unfold okOp
  rw [hk']
  simp [hd, Nat.blt_eq, hlt]

theorem owes_tail {x : Hint} {l : List Hint} (h : owes P h0 (x :: l)) : owes P h0 l := by
  cases x <;> first | exact h | exact h.2

theorem suff_pure (hl : (opsAt c0 p).toList.drop n = o :: rest) (hw : Region.wanted o (yielded (opsAt c0 p) a.tmps) = true) (hd : o.dst = some d) (hlt : d < C.N) (hk : opsKnown s.E o = true) (ok : Ok P C h0 fl s h a w) {hs : List Hint} (ho : owes P h0 hs) :
    Suff P C c0 Q h0 fl a w (.ops p n) s.ks (stepPure P u s p n o d hs) := by
  have hr := drop_cons hl
  unfold stepPure
  split
  · rename_i v _ _
    split
    · intro he k
      have he := he w _ (List.mem_singleton.2 rfl)
      simp only [Any.r.injEq] at he
      refine goal_unguard hl hw (wpList_plain rfl fun KK hK => ?_)
      unfold Oper.wp
      rw [run_ev (o := { o with guard := none }) ok.k.j.fits hk, show (execOp (evD s.E) { o with guard := none }).run P w = _ from he]
      refine hK _ _ ?_
      rw [hr]
      exact k _ _ _ (ok_put ok v hd hlt ho)
    · rename_i old new hc
      intro he k
      have he := he w _ (List.mem_singleton.2 rfl)
      simp only [Any.r.injEq] at he
      have := castOf_owes ok.owesC hc
      simp only at this
      subst this
      refine goal_unguard hl hw (wpList_plain rfl fun KK hK => ?_)
      unfold Oper.wp
      rw [run_ev (o := { o with guard := none }) ok.k.j.fits hk, show (execOp (evD s.E) { o with guard := none }).run P w = _ from he]
      refine hK _ _ ?_
      rw [hr]
      exact k _ _ _ (ok_put ok _ hd hlt ho)
  · trivial

theorem suff_made (hl : (opsAt c0 p).toList.drop n = o :: rest) (hw : Region.wanted o (yielded (opsAt c0 p) a.tmps) = true) (hd : o.dst = some d) (hlt : d < C.N) (hk : opsKnown s.E o = true) (ok : Ok P C h0 fl s h a w) :
    Suff P C c0 Q h0 fl a w (.ops p n) s.ks (stepMade P s p n o d) := by
  have hr := drop_cons hl
  unfold stepMade
  split
  · rename_i hs e
    intro he _ k
    have he := he w _ (List.mem_singleton.2 rfl)
    simp only [Any.r.injEq] at he
    have ho := ok.owes
    rw [e] at ho
    refine goal_unguard hl hw (wpList_plain rfl fun KK hK => ?_)
    unfold Oper.wp
    rw [run_ev (o := { o with guard := none }) ok.k.j.fits hk, show (execOp (evD s.E) { o with guard := none }).run P w = _ from he]
    refine hK _ _ ?_
    rw [hr]
    exact k w.heap.size _ _ _ ⟨⟨(ok.k.j.new _ _).putd _ hd hlt, ok.k.f⟩, ok.sees, owes_tail ho, ok.owesC, ok.same⟩
  · rename_i hs e
    intro he hfl k
    have he := he w _ (List.mem_singleton.2 rfl)
    simp only [Any.r.injEq] at he
    have ho := ok.owes
    rw [e] at ho
    have hfl := hfl rfl
    obtain ⟨h', s1, c1, j1⟩ := ok.k.j.fact (cellsMade P s.E o) (madeT P o.op)
    refine goal_unguard hl hw (wpList_plain rfl fun KK hK => ?_)
    unfold Oper.wp
    rw [run_ev (o := { o with guard := none }) ok.k.j.fits hk, show (execOp (evD s.E) { o with guard := none }).run P w = _ from he]
    refine hK _ _ ?_
    rw [hr]
    refine k w.heap.size _ _ _ ⟨⟨j1.putd _ hd hlt, fun x hx => ?_⟩, ok.sees.trans s1, owes_tail ho, ok.owesC, fun e => by rw [e] at hfl; cases hfl⟩
    rcases List.mem_cons.1 hx with rfl | hx
    · exact c1
    · exact (ok.k.f x hx).sees s1
  · trivial

theorem ev_of {E : List (Nat × Value)} {x : Operand} (hk : (evE E x).isSome = true) : evE E x = some (evD E x) := by
  obtain ⟨v, hv⟩ := Option.isSome_iff_exists.1 hk
  simp [evD, hv]
theorem known_of {E : List (Nat × Value)} (hk : opsKnown E o = true) {x : Operand} (hx : x ∈ o.op.operands.toList) : evE E x = some (evD E x) := by
  unfold opsKnown at hk
  rw [Bool.and_eq_true] at hk
  exact ev_of (List.all_eq_true.1 hk.2 x hx)

theorem suff_load (hl : (opsAt c0 p).toList.drop n = o :: rest) (hw : Region.wanted o (yielded (opsAt c0 p) a.tmps) = true) (hd : o.dst = some d) (hlt : d < C.N) (hk : opsKnown s.E o = true) (ok : Ok P C h0 fl s h a w) {t : TypeId} {x : Operand} (hop : o.op = .load t x) :
    Suff P C c0 Q h0 fl a w (.ops p n) s.ks (stepLoad P s p n t x d) := by
  have hr := drop_cons hl
  have hx := known_of hk (x := x) (by rw [hop]; simp [Op.operands])
  have hok := okk hd hlt hk
  unfold stepLoad
  split
  · rename_i i off hs e
    have ho := ok.owes
    rw [e] at ho
    split
    · rename_i b cs hB
      split
      · rename_i v hv
        intro he k
        have he := he w _ (List.mem_singleton.2 rfl)
        simp only [Any.v.injEq] at he
        refine goal_unguard hl hw (s_load ok.k.j d v i hok hop hB (by rw [hx, he]) hv fun a' j => ?_)
        rw [hr]
        exact k _ _ _ ⟨⟨j, ok.k.f⟩, ok.sees, owes_tail ho, ok.owesC, ok.same⟩
      · trivial
    · trivial
  · rename_i i off hs e
    have ho := ok.owes
    rw [e] at ho
    split
    · rename_i b o0 cs hF
      split
      · rename_i v hv
        intro he k
        have he := he w _ (List.mem_singleton.2 rfl)
        simp only [Any.v.injEq] at he
        refine goal_unguard hl hw (s_loadf ok.k.j d v (ok.k.f _ (List.mem_of_getElem? hF)) (Sees.refl _) hok hop (by rw [hx, he]) hv fun a' j => ?_)
        rw [hr]
        exact k _ _ _ ⟨⟨j, ok.k.f⟩, ok.sees, owes_tail ho, ok.owesC, ok.same⟩
      · trivial
    · trivial
  · trivial

theorem suff_store (hl : (opsAt c0 p).toList.drop n = o :: rest) (hw : Region.wanted o (yielded (opsAt c0 p) a.tmps) = true) (hd : o.dst = none) (hk : opsKnown s.E o = true) (ok : Ok P C h0 fl s h a w) {t : TypeId} {x y : Operand} (hop : o.op = .store t x y) :
    Suff P C c0 Q h0 fl a w (.ops p n) s.ks (stepStore P s p n t x y) := by
  have hr := drop_cons hl
  have hx := known_of hk (x := x) (by rw [hop]; simp [Op.operands])
  have hy := known_of hk (x := y) (by rw [hop]; simp [Op.operands])
  unfold stepStore
  split
  · rename_i i off hs e
    have ho := ok.owes
    rw [e] at ho
    split
    · rename_i b cs hB
      intro he k
      have he1 := he w (.v (evD s.E x), .v (.pointer (some ⟨b, off, none⟩))) (List.mem_cons_self ..)
      have he2 := he w (.b (storesOk P t cs off (evD s.E y)), .b true) (List.mem_cons_of_mem _ (List.mem_singleton.2 rfl))
      simp only [Any.v.injEq] at he1
      simp only [Any.b.injEq] at he2
      refine goal_unguard hl hw (s_store ok.k.j i (evD s.E y) _ (by simp [hd]) hop hB (by rw [hx, he1]) hy he2 rfl fun w' j => ?_)
      rw [hr]
      exact k _ _ _ ⟨⟨j, ok.k.f⟩, ok.sees, owes_tail ho, ok.owesC, ok.same⟩
    · trivial
  · trivial

theorem suff_ix (hl : (opsAt c0 p).toList.drop n = o :: rest) (hw : Region.wanted o (yielded (opsAt c0 p) a.tmps) = true) (hd : o.dst = some d) (hlt : d < C.N) (hk : opsKnown s.E o = true) (ok : Ok P C h0 fl s h a w) {t : TypeId} {x y : Operand} (hop : o.op = .indexAddr t x y) :
    Suff P C c0 Q h0 fl a w (.ops p n) s.ks (stepIx P u s p n o t x y d) := by
  have hr := drop_cons hl
  unfold stepIx
  split
  · rename_i e ht
    split
    · rename_i b off m cap k0 hs e2
      have ho := ok.owes
      rw [e2] at ho
      split
      · rename_i i hi
        intro he k
        have he1 := he w (.v (evD s.E x), .v (.slice (some ⟨b, off, none⟩) m cap)) (List.mem_cons_self ..)
        have he2 := he w (.v (evD s.E y), .v (.int .i64 (k0 : Int))) (List.mem_cons_of_mem _ (List.mem_singleton.2 rfl))
        simp only [Any.v.injEq] at he1 he2
        refine goal_unguard hl hw (wpList_plain rfl fun KK hK => ?_)
        unfold Oper.wp
        rw [run_ev (o := { o with guard := none }) ok.k.j.fits hk, run_indexAddr (o := { o with guard := none }) (e := e) (kk := i.size) hop he1 he2 ho.1 ht (by rw [hi]; rfl)]
        refine hK _ _ ?_
        rw [hr]
        exact k _ _ _ (ok_put ok _ hd hlt ho.2)
      · trivial
    · rename_i hs e2
      have ho := ok.owes
      rw [e2] at ho
      exact suff_pure hl hw hd hlt hk ok (owes_tail ho)
    · trivial
  · exact suff_pure hl hw hd hlt hk ok ok.owes

theorem suff_app (hl : (opsAt c0 p).toList.drop n = o :: rest) (hw : Region.wanted o (yielded (opsAt c0 p) a.tmps) = true) (hd : o.dst = some d) (hlt : d < C.N) (hk : opsKnown s.E o = true) (ok : Ok P C h0 fl s h a w) {c : Call} (hop : o.op = .call c) (hcal : c.callee = .builtin .append) :
    Suff P C c0 Q h0 fl a w (.ops p n) s.ks (stepApp P s p n o c d) := by
  have hr := drop_cons hl
  unfold stepApp
  split
  · rename_i y z t t' i j l ns hs ha hat e
    have ho := ok.owes
    rw [e] at ho
    split
    · rename_i v te kk l0 b cs zA m cp te' hB hF hz ht
      split
      · rename_i inf hinf
        split
        · rename_i zv hzv
          intro he hfl k
          have he := he w
          simp only [List.mem_cons, List.not_mem_nil, or_false, forall_eq_or_imp, forall_eq, Any.v.injEq, Any.ls.injEq, Any.b.injEq, Bool.and_eq_true, List.cons.injEq, and_true] at he
          obtain ⟨e1, e2, rfl, rfl, ⟨⟨⟨⟨⟨b1, b2⟩, b3⟩, b4⟩, b5⟩, b6⟩, b7⟩ := he
          have b1 := Nat.eq_of_beq_eq_true b1
          have b2 := Nat.eq_of_beq_eq_true b2
          have b3 := Nat.eq_of_beq_eq_true b3
          have b4 := Nat.eq_of_beq_eq_true b4
          have b5 := Nat.eq_of_beq_eq_true b5
          have b6 := Nat.le_of_ble_eq_true b6
          subst b1 b3
          have hca : c = { callee := .builtin .append, args := #[y, z], argTypes := #[t', t'] } := by
            obtain ⟨c1, c2, c3⟩ := c
            simp only at hcal ha hat
            subst hcal
            congr 1
            · rw [← Array.toArray_toList (xs := c2), ha]
            · rw [← Array.toArray_toList (xs := c3), hat]
          have hy1 := known_of hk (x := y) (by rw [hop, hca]; simp [Op.operands, Call.operands])
          have hz1 := known_of hk (x := z) (by rw [hop, hca]; simp [Op.operands, Call.operands])
          have hmm := (chkRows_parts b7).2.2.1
          refine goal_unguard hl hw (s_append (o := { o with guard := none }) (m := m) (c := cp) (ns := ns) ok.k.j d i (okk hd hlt hk) (by rw [← hca]; exact hop) b2 hB (by rw [hy1, e1]) (by rw [hz1, e2]) (ok.k.f _ (List.mem_of_getElem? hF)) (Sees.refl _) ht (by rw [hinf]; simp only [Option.map_some, hzv, b4]; rfl) b5 b7 ⟨?_, ?_⟩ fun u h' a' w' s1 j1 => ?_)
          · have h1 := ho.1
            rw [hmm] at h1
            calc (l0.length + m) * inf.bytes ≤ 100000000 * 1000000 := Nat.mul_le_mul h1 b6
              _ ≤ _ := by decide
          · have h1 := ho.1; omega
          · rw [hr]
            exact k u _ _ _ ⟨⟨j1, fun x hx => (ok.k.f x hx).sees s1⟩, ok.sees.trans s1, ho.2, ok.owesC, fun e => by rw [e] at hfl; cases hfl⟩
        · trivial
      · trivial
    · trivial
  · trivial

theorem suff_call (hl : (opsAt c0 p).toList.drop n = o :: rest) (hw : Region.wanted o (yielded (opsAt c0 p) a.tmps) = true) (hd : o.dst = some d) (hlt : d < C.N) (hk : opsKnown s.E o = true) (ok : Ok P C h0 fl s h a w) {c : Call} (hop : o.op = .call c) :
    Suff P C c0 Q h0 fl a w (.ops p n) s.ks (stepCall P u s p n o c d) := by
  have hr := drop_cons hl
  unfold stepCall
  split
  · split
    · rename_i f args v hs e2
      have ho := ok.owes
      rw [e2] at ho
      intro he k
      have he := he w _ (List.mem_singleton.2 rfl)
      simp only [Any.r.injEq] at he
      refine goal_unguard hl hw (wpList_plain rfl fun KK hK => ?_)
      unfold Oper.wp
      rw [run_ev (o := { o with guard := none }) ok.k.j.fits hk, show (execOp (evD s.E) { o with guard := none }).run P w = _ from he]
      refine (ho.1 ⟨w, blk s.B ++ C.bad0⟩ (ok.sees.trans ok.k.j.sees) (by intro x hx; cases hx) (by simp) (by simp) (bad_lt ok.k.j)).mono ?_
      rintro e w' ⟨v', Bo, rfl, hlow, -, -, rfl⟩
      refine hK _ _ ?_
      rw [hr]
      exact k _ _ _ ⟨⟨(ok.k.j.grow hlow).putd _ hd hlt, ok.k.f⟩, ok.sees, ho.2, ok.owesC, ok.same⟩
    · trivial
  · rename_i hcal; exact suff_app hl hw hd hlt hk ok hop hcal
  · exact suff_pure hl hw hd hlt hk ok ok.owes

theorem suff_op (hl : (opsAt c0 p).toList.drop n = o :: rest) (ok : Ok P C h0 fl s h a w) : Suff P C c0 Q h0 fl a w (.ops p n) s.ks (stepOp P C u s p n (opsAt c0 p) o) := by
  have hr := drop_cons hl
  unfold stepOp
  split
  · trivial
  · rename_i hg
    have hw := gKnown_wanted ok.k.j.fits hg
    split
    · rename_i d hd
      split
      · rename_i hlt
        intro _ k
        unfold Goal
        simp only
        rw [hl]
        unfold wpList
        rw [if_neg (by rw [hw]; simp), hr]
        exact k _ _ _ ⟨⟨ok.k.j.putd _ hd (by have := Nat.le_of_ble_eq_true hlt; omega), ok.k.f⟩, ok.sees, ok.owes, ok.owesC, ok.same⟩
      · trivial
    · rename_i hd
      intro _ k
      unfold Goal
      simp only
      rw [hl]
      unfold wpList
      rw [if_neg (by rw [hw]; simp), hr, hd]
      exact k _ _ _ ⟨⟨ok.k.j, ok.k.f⟩, ok.sees, ok.owes, ok.owesC, ok.same⟩
  · rename_i hg
    have hw := gKnown_wanted ok.k.j.fits hg
    split
    · trivial
    · rename_i hk
      split
      · rename_i hd
        split
        · rename_i t x y hop
          exact suff_store hl hw hd hk ok hop
        · trivial
      · rename_i d hd
        split
        · trivial
        · rename_i hlt
          have hlt : d < C.N := by simpa [Nat.blt_eq] using hlt
          split
          · rename_i hop; exact suff_load hl hw hd hlt hk ok hop
          · exact suff_made hl hw hd hlt hk ok
          · exact suff_made hl hw hd hlt hk ok
          · exact suff_made hl hw hd hlt hk ok
          · rename_i hop; exact suff_ix hl hw hd hlt hk ok hop
          · rename_i hop; exact suff_call hl hw hd hlt hk ok hop
          · exact suff_pure hl hw hd hlt hk ok ok.owes
end ops

theorem ok_same {fl : Bool} (ok : Ok P C h0 fl s h a w) (p : Pt) (ks : List Kt) : Ok P C h0 fl { s with p := p, ks := ks } h a w := ⟨ok.k, ok.sees, ok.owes, ok.owesC, ok.same⟩

theorem suff_code {fl : Bool} {p : List Nat} (ok : Ok P C h0 fl s h a w) : Suff P C c0 Q h0 fl a w (.code p) s.ks (stepCode s p (sub c0 p)) := by
  unfold stepCode
  split <;> rename_i hc
  · intro _ k; unfold Goal; simp only; rw [hc]; exact wp_skip (k _ _ _ (ok_same ok _ _))
  · intro _ k; unfold Goal; simp only; rw [hc]; exact wp_label (k _ _ _ (ok_same ok _ _))
  · intro _ k; unfold Goal; simp only; rw [hc]
    refine wp_seq ?_
    have := k _ _ _ (ok_same ok _ _)
    simpa only [Goal, post, sub, hc, child] using this
  · intro _ k; unfold Goal; simp only; rw [hc]
    refine wp_block ?_
    have := k _ _ _ (ok_same ok _ _)
    simpa only [Goal, post, sub, hc, child] using this
  · intro _ k; unfold Goal; simp only; rw [hc]; exact wp_exit (k _ _ _ (ok_same ok _ _))
  · intro _ k; unfold Goal; simp only; rw [hc]; exact wp_ret (k _ _ _ (ok_same ok _ _))
  · split
    · rename_i hv
      intro _ k; unfold Goal; simp only; rw [hc]
      refine wp_cond_true (ok.k.j.fits.ev hv) ?_
      have := k _ _ _ (ok_same ok _ _)
      simpa only [Goal, post, sub, hc, child] using this
    · rename_i hv
      intro _ k; unfold Goal; simp only; rw [hc]
      refine wp_cond_false (ok.k.j.fits.ev hv) ?_
      have := k _ _ _ (ok_same ok _ _)
      simpa only [Goal, post, sub, hc, child] using this
    · trivial
  · split
    · intro _ k; unfold Goal; simp only; rw [hc]
      refine wp_region_list ?_
      have := k _ _ _ (ok_same ok _ _)
      simpa only [Goal, opsAt, opsOf, hc, List.drop_zero] using this
    · trivial
  · trivial

theorem suff_out {fl : Bool} {e : Exit} (ok : Ok P C h0 fl s h a w) : Suff P C c0 Q h0 fl a w (.out e) s.ks (stepOut s e) := by
  unfold stepOut
  split
  · trivial
  · rename_i q ks hk
    rw [hk]
    split
    · rename_i hn
      intro _ k
      cases e <;> first | cases hn | skip
      exact k _ _ _ (ok_same ok _ _)
    · rename_i hne
      intro _ k
      have := k _ _ _ (ok_same ok _ _)
      unfold Goal post
      cases e <;> first | exact this | cases hne
  · rename_i id ks hk
    rw [hk]
    cases e with
    | exit id' =>
      simp only
      split
      · rename_i he
        have he := Nat.eq_of_beq_eq_true he
        subst he
        intro _ k
        exact block_same (k _ _ _ (ok_same ok _ _))
      · rename_i he
        intro _ k
        exact block_other he (k _ _ _ (ok_same ok _ _))
    | normal => intro _ k; exact k _ _ _ (ok_same ok _ _)
    | goto l => intro _ k; exact k _ _ _ (ok_same ok _ _)
    | ret => intro _ k; exact k _ _ _ (ok_same ok _ _)
    | panic c => intro _ k; exact k _ _ _ (ok_same ok _ _)
    | outgrown => intro _ k; exact k _ _ _ (ok_same ok _ _)

theorem suff_step {fl : Bool} (ok : Ok P C h0 fl s h a w) : Suff P C c0 Q h0 fl a w s.p s.ks (step1 P C c0 u s) := by
  unfold step1
  split
  · rename_i p hp; rw [hp]; exact suff_code ok
  · rename_i p n hp
    rw [hp]
    split
    · rename_i hl
      intro _ k
      unfold Goal
      simp only
      rw [hl]
      exact wpList_nil (k _ _ _ (ok_same ok _ _))
    · rename_i o rest hl
      exact suff_op hl ok
  · rename_i e hp; rw [hp]; exact suff_out ok

theorem fin_good {fl : Bool} {T : Tgt} (ok : Ok P C h0 fl s h a w) (hT : T.all fun _ => (T.fin s).1 = (T.fin s).2) (hg : T.good C h0 (Goal P c0 Q) fl) : Goal P c0 Q s.p s.ks a w := by
  cases T with
  | new f =>
    obtain ⟨l, hl⟩ := Tgt.all_some hT
    simp [Tgt.fin] at hl
  | nv f =>
    obtain ⟨l, hl⟩ := Tgt.all_some hT
    simp [Tgt.fin] at hl
  | ok p ks E B F =>
    obtain ⟨l, hl⟩ := Tgt.all_some hT
    simp only [Tgt.fin, ends, wants, List.cons.injEq, Any.pt.injEq, Any.ov.injEq, Any.bs.injEq, Any.fs.injEq, and_true] at hl
    obtain ⟨⟨h1, h2⟩, h3, h4, h5⟩ := hl
    rw [h1, h2]
    have k : K C E B F h a w := ⟨ok.k.j.to h3 h4.symm, by rw [← h5]; exact ok.k.f⟩
    unfold Tgt.good at hg
    cases fl with
    | false => have := ok.same rfl; subst this; exact hg _ _ k
    | true => exact hg _ _ _ ok.sees k

theorem run_suff {fl : Bool} : ∀ (n : Nat) {s : St} {T : Tgt} {h : Vw} {a : Act} {w : World}, Ok P C h0 fl s h a w → (T.all fun l => ∀ w, (run P C c0 u fl n s T l w).1 = (run P C c0 u fl n s T l w).2) → T.good C h0 (Goal P c0 Q) fl → Goal P c0 Q s.p s.ks a w
  | 0, s, T, h, a, w, ok, hT, hg => fin_good ok (Tgt.all_mono hT fun l k => k w) hg
  | n + 1, s, T, h, a, w, ok, hT, hg => by
    have hs := suff_step (c0 := c0) (Q := Q) (u := u) ok
    cases hst : step1 P C c0 u s with
    | bad =>
      obtain ⟨l, hl⟩ := Tgt.all_some hT
      have := hl w
      unfold run at this
      rw [hst] at this
      simp at this
    | go s' e =>
      rw [hst] at hs
      have key : T.all fun l => ∀ w, (∀ x ∈ e w, x.1 = x.2) ∧ (run P C c0 u fl n s' T l w).1 = (run P C c0 u fl n s' T l w).2 := Tgt.all_mono hT fun l k w => by
        have := k w
        unfold run at this
        rw [hst] at this
        exact addE_eq this
      refine hs (fun w => ?_) fun h a w ok' => run_suff n ok' (Tgt.all_mono key fun l k w => (k w).2) hg
      obtain ⟨l, hl⟩ := Tgt.all_some key
      exact (hl w).1
    | fresh fx f e =>
      rw [hst] at hs
      cases T with
      | ok p ks E B F =>
        have := hT w
        unfold run at this
        rw [hst] at this
        simp at this
      | nv g =>
        obtain ⟨l, hl⟩ := Tgt.all_some (hT undef)
        have := hl w
        unfold run at this
        rw [hst] at this
        simp at this
      | new g =>
        have key : ∀ b, (g b).all fun l => ∀ w, ((fx && !fl) = false ∧ ∀ x ∈ e w, x.1 = x.2) ∧ (run P C c0 u fl n (f b) (g b) l w).1 = (run P C c0 u fl n (f b) (g b) l w).2 := fun b => Tgt.all_mono (hT b) fun l k w => by
          have := k w
          unfold run at this
          rw [hst] at this
          cases hfx : fx && !fl with
          | true => simp only [hfx] at this; simp at this
          | false =>
            simp only [hfx] at this
            have := addE_eq this
            exact ⟨⟨rfl, this.1⟩, this.2⟩
        obtain ⟨l, hl⟩ := Tgt.all_some (key 0)
        refine hs (fun w => (hl w).1.2) (fun hx => ?_) fun b h a w ok' => run_suff n ok' (Tgt.all_mono (key b) fun l k w => (k w).2) (hg b)
        have := (hl w).1.1
        rw [hx] at this
        simpa using this
    | freshV f e =>
      rw [hst] at hs
      cases T with
      | ok p ks E B F =>
        have := hT w
        unfold run at this
        rw [hst] at this
        simp at this
      | new g =>
        obtain ⟨l, hl⟩ := Tgt.all_some (hT 0)
        have := hl w
        unfold run at this
        rw [hst] at this
        simp at this
      | nv g =>
        have key : ∀ b, (g b).all fun l => ∀ w, (fl = true ∧ ∀ x ∈ e w, x.1 = x.2) ∧ (run P C c0 u fl n (f b) (g b) l w).1 = (run P C c0 u fl n (f b) (g b) l w).2 := fun b => Tgt.all_mono (hT b) fun l k w => by
          have := k w
          unfold run at this
          rw [hst] at this
          cases hfx : fl with
          | false => simp only [hfx] at this; simp at this
          | true =>
            subst hfx
            have := addE_eq this
            exact ⟨⟨rfl, this.1⟩, this.2⟩
        obtain ⟨l, hl⟩ := Tgt.all_some (key undef)
        exact hs (fun w => (hl w).1.2) (hl w).1.1 fun b h a w ok' => run_suff n ok' (Tgt.all_mono (key b) fun l k w => (k w).2) (hg b)

/-- A run of n steps. -/
theorem rx {p : Pt} {ks : List Kt} {E : List (Nat × Value)} {B : List Ent} {F : List Fac} (hK : K C E B F h a w) (fl : Bool) (n : Nat) (hs : List Hint) (cs : List (Nat × Value × Value)) (T : Tgt) (ho : owes P h hs) (hc : owesC cs)
    (hr : T.all fun l => ∀ w, (run P C c0 C.w0 fl n ⟨p, ks, E, B, F, hs, cs⟩ T l w).1 = (run P C c0 C.w0 fl n ⟨p, ks, E, B, F, hs, cs⟩ T l w).2) (k : T.good C h (Goal P c0 Q) fl) : Goal P c0 Q p ks a w :=
  run_suff n (s := ⟨p, ks, E, B, F, hs, cs⟩) ⟨hK, Sees.refl _, ho, hc, fun _ => rfl⟩ hr k

/-! ### What a run does not do -/
section more
variable {p : List Nat} {n : Nat} {ks : List Kt} {E : List (Nat × Value)} {B : List Ent} {F : List Fac} {d : Nat}

theorem goal_cond {c : Operand} {x y : Code} {t : Bool} (hK : K C E B F h a w) (hs : sub c0 p = .cond c x y) (hc : evE E c = some (.bool t)) (k1 : t = true → Goal P c0 Q (.code (0 :: p)) ks a w) (k2 : t = false → Goal P c0 Q (.code (1 :: p)) ks a w) : Goal P c0 Q (.code p) ks a w := by
  unfold Goal at k1 k2 ⊢
  simp only [sub, hs, child] at k1 k2 ⊢
  exact wp_cond_split (hK.j.fits.ev hc) k1 k2
def condOf : Code → Option Operand
  | .cond c _ _ => some c
  | _ => none
theorem condOf_some {c : Code} {x : Operand} (h : condOf c = some x) : ∃ y z, c = .cond x y z := by
  unfold condOf at h
  split at h
  · simp only [Option.some.injEq] at h; subst h; exact ⟨_, _, rfl⟩
  · cases h
/-- A test: t. -/
theorem x_true {t : Bool} (hK : K C E B F h a w) (hs : ((condOf (sub c0 p)).bind (evE E)) = some (.bool t)) (ht : t = true) (k : Goal P c0 Q (.code (0 :: p)) ks a w) : Goal P c0 Q (.code p) ks a w := by
  obtain ⟨c, hc, hv⟩ := Option.bind_eq_some_iff.1 hs
  obtain ⟨y, z, e⟩ := condOf_some hc
  exact goal_cond hK e hv (fun _ => k) (fun e => by rw [ht] at e; cases e)
theorem x_false {t : Bool} (hK : K C E B F h a w) (hs : ((condOf (sub c0 p)).bind (evE E)) = some (.bool t)) (ht : t = false) (k : Goal P c0 Q (.code (1 :: p)) ks a w) : Goal P c0 Q (.code p) ks a w := by
  obtain ⟨c, hc, hv⟩ := Option.bind_eq_some_iff.1 hs
  obtain ⟨y, z, e⟩ := condOf_some hc
  exact goal_cond hK e hv (fun e => by rw [ht] at e; cases e) (fun _ => k)
theorem x_split {t : Bool} (hK : K C E B F h a w) (hs : ((condOf (sub c0 p)).bind (evE E)) = some (.bool t)) (k1 : t = true → Goal P c0 Q (.code (0 :: p)) ks a w) (k2 : t = false → Goal P c0 Q (.code (1 :: p)) ks a w) : Goal P c0 Q (.code p) ks a w := by
  obtain ⟨c, hc, hv⟩ := Option.bind_eq_some_iff.1 hs
  obtain ⟨y, z, e⟩ := condOf_some hc
  exact goal_cond hK e hv k1 k2

/-- The next operation is a call of f at args; its result goes to d. -/
def callAt (P : Program) (C : Fx) (E : List (Nat × Value)) (ops : Array Oper) (l : List Oper) (d : Nat) (w : World) : List Any :=
  match l with
  | o :: _ => match gKnown E ops o with
    | some true => match o.dst with
      | some d' => [.b (Nat.beq d' d && Nat.blt d C.N && opsKnown E o), .r ((execOp (evD E) o).run P w)]
      | none => [.bad]
    | _ => [.bad]
  | [] => [.bad]
theorem callAt_parts {l : List Oper} {ops : Array Oper} {f : FuncId} {args : Array Value} (hk : ∀ w, callAt P C E ops l d w = [.b true, .r (.ok (.enter f args) w)]) :
    ∃ o r, l = o :: r ∧ gKnown E ops o = some true ∧ o.dst = some d ∧ d < C.N ∧ opsKnown E o = true ∧ ∀ w, (execOp (evD E) o).run P w = .ok (.enter f args) w := by
  cases l with
  | nil => have := hk world0; simp [callAt] at this
  | cons o r =>
    have h0 := hk world0
    unfold callAt at h0 hk
    split at h0
    · rename_i heq
      simp only [List.cons.injEq] at heq
      obtain ⟨rfl, rfl⟩ := heq
      split at h0
      · rename_i hg
        split at h0
        · rename_i d' hd
          simp only [List.cons.injEq, Any.b.injEq, Bool.and_eq_true] at h0
          obtain ⟨⟨⟨h1, h2⟩, h3⟩, -⟩ := h0
          refine ⟨_, _, rfl, hg, by rw [hd, Nat.eq_of_beq_eq_true h1], by have := Nat.le_of_ble_eq_true h2; omega, h3, fun w => ?_⟩
          have := hk w
          simp only [hg, hd, List.cons.injEq, Any.r.injEq, and_true] at this
          exact this.2
        · simp at h0
      · simp at h0
    · simp at h0

theorem K.facs {h' : Vw} (hK : K C E B F h a w) (s : Sees h h') : ∀ x ∈ F, Cells h' x.1 x.2.1 x.2.2 := fun x hx => (hK.f x hx).sees s

/-- A call whose value is not known ahead. -/
theorem x_call {f : FuncId} {args : Array Value} {R : Value → Vw → Prop} (hK : K C E B F h a w) (d : Nat) (hc : C0 P f args ⟨w, blk B ++ C.bad0⟩ R) (hk : ∀ w, callAt P C E (opsAt c0 p) ((opsAt c0 p).toList.drop n) d w = [.b true, .r (.ok (.enter f args) w)])
    (k : ∀ v h' a w, Sees h h' → R v h' → K C ((d, v) :: E) B F h' a w → Goal P c0 Q (.ops p (n + 1)) ks a w) : Goal P c0 Q (.ops p n) ks a w := by
  obtain ⟨o, r, hl, hg, hd, hlt, hkn, hrun⟩ := callAt_parts hk
  have hr := drop_cons hl
  refine goal_unguard hl (gKnown_wanted hK.j.fits hg) ?_
  refine s_call (o := { o with guard := none }) hK.j d hc (okk (s := ⟨.out .ret, [], E, B, F, [], []⟩) hd hlt hkn) hrun ?_
  intro v h' a' w' s r1 j
  rw [hr]
  exact k v h' a' w' s r1 ⟨j, hK.facs s⟩
/-- .. that writes own block i. -/
theorem x_call1 {f : FuncId} {args : Array Value} {R : Value → List Value → Vw → Prop} (hK : K C E B F h a w) (d : Nat) (i : Nat) {b : Nat} {cs : List Value} (hc : C1 P f args ⟨w, blk B ++ C.bad0⟩ b cs R) (hB : B[i]? = some (.box b cs)) (hk : ∀ w, callAt P C E (opsAt c0 p) ((opsAt c0 p).toList.drop n) d w = [.b true, .r (.ok (.enter f args) w)])
    (k : ∀ v cs' h' a w, Sees h h' → R v cs' h' → K C ((d, v) :: E) (B.set i (.box b cs')) F h' a w → Goal P c0 Q (.ops p (n + 1)) ks a w) : Goal P c0 Q (.ops p n) ks a w := by
  obtain ⟨o, r, hl, hg, hd, hlt, hkn, hrun⟩ := callAt_parts hk
  have hr := drop_cons hl
  refine goal_unguard hl (gKnown_wanted hK.j.fits hg) ?_
  refine s_call1 (o := { o with guard := none }) hK.j d i hc hB (okk (s := ⟨.out .ret, [], E, B, F, [], []⟩) hd hlt hkn) hrun ?_
  intro v cs' h' a' w' s r1 j
  rw [hr]
  exact k v cs' h' a' w' s r1 ⟨j, hK.facs s⟩

def loopOf : Code → Bool
  | .loop _ => true
  | _ => false
/-- A loop. -/
theorem x_loop {ι : Type} (I : ι → Act → World → Prop) (m : ι → Nat) (i0 : ι) (hs : loopOf (sub c0 p) = true) (h0 : I i0 a w)
    (round : ∀ i a w, I i a w → Goal P c0 (Exit.then (fun a' w' => ∃ i', I i' a' w' ∧ m i' < m i) (post P c0 Q ks)) (.code (0 :: p)) [] a w) : Goal P c0 Q (.code p) ks a w := by
  unfold loopOf at hs
  split at hs
  · rename_i c hc
    unfold Goal
    simp only [hc]
    refine c_loop I m i0 h0 fun i a w hi => ?_
    have := round i a w hi
    simpa only [Goal, sub, hc, child, post] using this
  · cases hs
theorem x_round {I : Act → World → Prop} {Q' : Exit → Act → World → Prop} (k : I a w) : Goal P c0 (Exit.then I Q') (.out .normal) [] a w := k
theorem x_leave {I : Act → World → Prop} {e : Exit} (hne : isNorm e = false) (k : Goal P c0 Q (.out e) ks a w) : Goal P c0 (Exit.then I (post P c0 Q ks)) (.out e) [] a w := by
  have k : post P c0 Q ks e a w := k
  show Exit.then I (post P c0 Q ks) e a w
  cases e <;> first | exact k | cases hne
/-- The append of a row that is known cells. -/
theorem x_end {e : Exit} (k : Q e a w) : Goal P c0 Q (.out e) [] a w := k
theorem no_own (B : List Ent) : B = B ++ ([] : List (Nat × List Value)).map (fun x => .box x.1 x.2) := (List.append_nil B).symm
theorem an_own {B : List Ent} {g : Nat} {cs : List Value} (h : B.getLast? = some (.box g cs)) : B = B.dropLast ++ [(g, cs)].map (fun x => Ent.box x.1 x.2) := by
  obtain ⟨ys, rfl⟩ := List.getLast?_eq_some_iff.1 h
  simp
theorem x_start (k : Goal P c0 Q (.code []) [] a w) : c0.wp P Q a w := k

theorem K.nilrow (hK : K C E B F h a w) (e : TypeId) (k : Nat) : K C E (.row (.slice none 0 0) e k [] :: B) F h a w := ⟨hK.j.nilrow e k, hK.f⟩
theorem K.drop (hK : K C E B F h a w) (i : Nat) : K C E (B.eraseIdx i) F h a w := ⟨hK.j.drop i, hK.f⟩
theorem K.to {E' : List (Nat × Value)} {B' : List Ent} {F' : List Fac} (hK : K C E B F h a w) (hE : E'.map (fun p => lookup E p.1) = E'.map (fun p => some p.2)) (hB : B' = B) (hF : F' = F) : K C E' B' F' h a w := ⟨hK.j.to hE hB, by rw [hF]; exact hK.f⟩
theorem K.tof {F' : List Fac} (hK : K C E B F h a w) (ix : List Nat) (hF : ix.map (fun i => F[i]?) = F'.map some) : K C E B F' h a w := ⟨hK.j, fun x hx => by
  have : some x ∈ F'.map some := List.mem_map.2 ⟨x, hx, rfl⟩
  rw [← hF] at this
  obtain ⟨i, -, hi⟩ := List.mem_map.1 this
  exact hK.f x (List.mem_of_getElem? hi)⟩
theorem K.rew (hK : K C E B F h a w) (d : Nat) {v v' : Value} (hv : v = v') (hd : lookup E d = some v) : K C ((d, v') :: E) B F h a w := ⟨hK.j.rew d hv hd, hK.f⟩
theorem K.fact (hK : K C E B F h a w) {b o : Nat} {cs : List Value} (c : Cells h b o cs) : K C E B ((b, o, cs) :: F) h a w := ⟨hK.j, fun x hx => by
  rcases List.mem_cons.1 hx with rfl | hx
  · exact c
  · exact hK.f x hx⟩
theorem K.form (hK : K C E B F h a w) (i : Nat) {v : Value} {e : TypeId} {k : Nat} {l : List (List Value)} (hB : B[i]? = some (.row v e k l)) : ∃ A c, v = .slice A l.length c ∧ l.length ≤ c ∧ c ≤ maxLen := hK.j.form i hB
theorem K.frozen (hK : K C E B F h a w) (i : Nat) {v : Value} {e : TypeId} {k : Nat} {l : List (List Value)} (hB : B[i]? = some (.row v e k l)) (hout : RS ⟨w, C.bad0⟩ k v l) : ∃ h', Sees h h' ∧ RS h' k v l ∧ K C E (B.eraseIdx i) F h' a w := by
  obtain ⟨h', s, r, j⟩ := hK.j.frozen i hB hout
  exact ⟨h', s, r, j, hK.facs s⟩
/-- A row of the call's own, lent to one that writes own block g. -/
theorem K.rowLent (hK : K C E B F h a w) (i j : Nat) {v : Value} {e : TypeId} {k g : Nat} {cs : List Value} {l : List (List Value)} (hB : B[i]? = some (.row v e k l)) (hj : B[j]? = some (.box g cs)) (hne : Nat.beq i j = false) : RS ⟨w, [g]⟩ k v l :=
  row_rs (hK.j.ents _ (List.mem_of_getElem? hB)) fun b hb hm => ent_apart hK.j.nodup hB hj (Nat.ne_of_beq_eq_false hne) b (by simp [Ent.blocks, hb]) (by simpa [Ent.blocks] using hm)
theorem K.lentSees (hK : K C E B F h a w) (j : Nat) {g : Nat} {cs : List Value} (hj : B[j]? = some (.box g cs)) : Sees h ⟨w, [g]⟩ :=
  hK.j.sees.less fun b hb => by
    obtain rfl := List.mem_singleton.1 hb
    exact List.mem_append_left _ (List.mem_flatMap.2 ⟨_, List.mem_of_getElem? hj, by simp [Ent.blocks]⟩)
/-- The value of a pure operation, shown by hand. -/
def opN (c0 : Code) (p : List Nat) (n : Nat) : Oper := opAt (opsAt c0 p) n
def goodOp (C : Fx) (E : List (Nat × Value)) (ops : Array Oper) (n d : Nat) : Bool :=
  match ops.toList.drop n with
  | o :: _ => (match gKnown E ops o with | some true => true | _ => false) && (match o.dst with | some x => Nat.beq x d | none => false) && Nat.blt d C.N && opsKnown E o
  | [] => false
theorem drop_opAt {ops : Array Oper} {o : Oper} {r : List Oper} (h : ops.toList.drop n = o :: r) : opAt ops n = o := by
  have : (ops.toList.drop n)[0]? = some o := by rw [h]; rfl
  rw [List.getElem?_drop, Nat.add_zero] at this
  unfold opAt
  rw [List.getD_eq_getElem?_getD, this]; rfl
theorem x_pure (hK : K C E B F h a w) (d : Nat) (v : Value) (hk : goodOp C E (opsAt c0 p) n d = true) (hr : ∀ w, (execOp (evD E) (opAt (opsAt c0 p) n)).run P w = .ok (.value v) w) (k : ∀ a w, K C ((d, v) :: E) B F h a w → Goal P c0 Q (.ops p (n + 1)) ks a w) : Goal P c0 Q (.ops p n) ks a w := by
  unfold goodOp at hk
  split at hk
  · rename_i o r hl
    simp only [Bool.and_eq_true] at hk
    obtain ⟨⟨⟨k1, k2⟩, k3⟩, k4⟩ := hk
    have hr' := drop_cons hl
    have hg : gKnown E (opsAt c0 p) o = some true := by
      split at k1
      · assumption
      · cases k1
    have hd : o.dst = some d := by
      split at k2
      · rename_i x e; rw [e, Nat.eq_of_beq_eq_true k2]
      · cases k2
    have hlt : d < C.N := by simpa [Nat.blt_eq] using k3
    refine goal_unguard hl (gKnown_wanted hK.j.fits hg) (s_pure (o := { o with guard := none }) hK.j d v (okk (s := ⟨.out .ret, [], E, B, F, [], []⟩) hd hlt k4) (fun w => ?_) fun a' j => ?_)
    · have := hr w
      rw [drop_opAt hl] at this
      exact this
    · rw [hr']
      exact k _ _ ⟨j, hK.f⟩
  · cases hk

theorem RS.cell {h : Vw} {k : Nat} {b off n cap : Nat} {l : List (List Value)} (r : RS h k (.slice (some ⟨b, off, none⟩) n cap) l) {i : Nat} {x : List Value} (hi : l[i]? = some x) : Cells h b (off + i * k) x := by
  obtain ⟨b', off', e, -, c⟩ := r.row hi
  simp only [Option.some.injEq, Addr.mk.injEq, and_true] at e
  obtain ⟨rfl, rfl⟩ := e
  exact c
end more

/-- A function is walked so. -/
theorem x_con {f : FuncId} {fn : Func} {c : Code} {args : Array Value} {N : Nat} {Bi : List (Nat × List Value)} {R : Value → List (List Value) → Vw → Prop} (hf : P.funcs[f]? = some fn) (hb : fn.body = some c) (hN : fn.ntmps = N) (hle : Nat.ble args.size N = true)
    (body : BoxesOk h.w Bi → (∀ x ∈ Bi, x.1 ∈ h.bad) → ∀ (Q : Exit → Act → World → Prop),
      (∀ {E : List (Nat × Value)} {B : List Ent} {F : List Fac} {h' : Vw} {a : Act} {w : World} (vs : List Value) (Bp : List Ent) (Bo : List (Nat × List Value)), K ⟨N, h.w, h.bad, Bi.map (·.1)⟩ E B F h' a w → Res P a w fn.results.toList vs → B = Bp ++ Bo.map (fun x => .box x.1 x.2) → Bo.map (·.1) = Bi.map (·.1) → R (pack vs) (Bo.map (·.2)) ⟨w, h.bad⟩ → Q .ret a w ∧ Q .normal a w) →
      ∀ a w, K ⟨N, h.w, h.bad, Bi.map (·.1)⟩ (argE 0 args.toList) (Bi.map (fun x => .box x.1 x.2)) [] h a w → Goal P c Q (.code []) [] a w) : Con P f args h Bi R :=
  con_start hf hb hN hle fun b1 b2 Q hQ a w hJ => body b1 b2 Q (fun vs Bp Bo hK => hQ vs Bp Bo hK.j) a w ⟨hJ, fun x hx => by cases hx⟩
end


inductive An where
  | v (x : Value) | vs (x : List Value) | es (x : List (List Ent)) | ps (x : List (Vw → Prop)) | r (x : Result Next) | b (x : Bool) | oe (x : Option Ent) | ov (x : Option Value) | bad

/-- How an operation of a region is looked at. -/
inductive RH where
  | pu                    -- it is reckoned
  | ld (e off : Nat)      -- a load from block e of the region's, at off
  | lf (j off : Nat)      -- .. from known cells j
  | st (e off : Nat)      -- a store
  | al (e : Nat)          -- a new block, e of the region's
  | ps                    -- passed over
  | cl                    -- told for itself

def plT (R : Reg) (i : Nat) : Nat := R.T.findIdx fun t => Nat.beq t.1 i
def dpOf (R : Reg) (ops : Array Oper) (i : Nat) : List Nat := (List.range R.T.length).filter fun p => match R.T[p]? with
  | some t => (dirs (opAt ops i)).contains t.1
  | none => false
def noF (R : Reg) (i : Nat) : Bool := R.F.all fun t => t.1 != i
def rdx (R : Reg) (ops : Array Oper) (i : Nat) (x : Gh) : List (Nat × Value) := rdE R i (dpOf R ops i) x
def runR (P : Program) (R : Reg) (ops : Array Oper) (i : Nat) (x : Gh) (w : World) : Result Next := (execOp (evD (rdx R ops i x)) (opAt ops i)).run P w
def freeT (R : Reg) (i : Nat) (x : Gh) : List Value := (R.T.filter (fun t => !((R.an t.1).contains i || t.1 == i))).map (fun t => t.2.2 x)
def freeG (R : Reg) (i : Nat) (x : Gh) : List (List Ent) := R.G.map (fun g => (g.vers.filter (fun t => !((R.an t.1).contains i || t.1 == i))).map (fun t => t.2 x))
def freeF (R : Reg) (i : Nat) (x : Gh) : List (Vw → Prop) := (R.F.filter (fun t => !((R.an t.1).contains i || t.1 == i))).map (fun t => t.2 x)
def ptrOf (b off : Nat) : Value := .pointer (some ⟨b, off, none⟩)
def boxB : Option Ent → Nat
  | some (.box b _) => b
  | _ => 0
def boxC : Option Ent → List Value
  | some (.box _ cs) => cs
  | _ => []
def opT : Op → TypeId
  | .load t _ => t
  | .store t _ _ => t
  | .alloc t => t
  | .box t _ => t
  | _ => 0
def opX : Op → Operand
  | .load _ x => x
  | .store _ x _ => x
  | _ => .const undef
def opY : Op → Operand
  | .store _ _ y => y
  | _ => .const undef
def isLoad : Op → Bool
  | .load _ _ => true
  | _ => false
def isStore : Op → Bool
  | .store _ _ _ => true
  | _ => false

def chkO (P : Program) (R : Reg) (ops : Array Oper) (KF : List Fac) (x : Gh) (v : Value) (w : World) (i : Nat) (hint : RH) : List (An × An) :=
  match hint with
  | .cl => []
  | .pu => match R.T[plT R i]? with
    | some (i', d, f) => [(.b (Nat.beq i' i && only R i none && noF R i && okR R ops i d (dpOf R ops i) x), .b true), (.r (runR P R ops i x w), .r (.ok (.value (f x)) w))]
    | none => [(.bad, .b true)]
  | .ps => match R.T[plT R i]? with
    | some (i', d, f) => [(.b (Nat.beq i' i && only R i none && noF R i), .b true), (.b (chkD R ops i (dpOf R ops i) && gOk R ops i (dpOf R ops i) x false && (match (opAt ops i).dst with | some y => Nat.beq y d | none => false)), .b true), (.v (f x), .v undef)]
    | none => [(.bad, .b true)]
  | .ld e off => match R.T[plT R i]?, R.G[e]? with
    | some (i', d, f), some g => [(.b (Nat.beq i' i && only R i none && noF R i && isLoad (opAt ops i).op && okR R ops i d (dpOf R ops i) x && sync R i g), .b true),
        (.oe (curA (R.an i) x g), .oe (some (.box (boxB (curA (R.an i) x g)) (boxC (curA (R.an i) x g))))), (.ov (evE (rdx R ops i x) (opX (opAt ops i).op)), .ov (some (ptrOf (boxB (curA (R.an i) x g)) off))), (.ov (loadsAs P (opT (opAt ops i).op) (boxC (curA (R.an i) x g)) off), .ov (some (f x)))]
    | _, _ => [(.bad, .b true)]
  | .lf j off => match R.T[plT R i]?, KF[j]? with
    | some (i', d, f), some (b, o0, cs) => [(.b (Nat.beq i' i && only R i none && noF R i && isLoad (opAt ops i).op && okR R ops i d (dpOf R ops i) x), .b true),
        (.ov (evE (rdx R ops i x) (opX (opAt ops i).op)), .ov (some (ptrOf b (o0 + off)))), (.ov (loadsAs P (opT (opAt ops i).op) cs off), .ov (some (f x)))]
    | _, _ => [(.bad, .b true)]
  | .st e off => match R.G[e]? with
    | some g => [(.b (isStore (opAt ops i).op && (R.T.all fun t => t.1 != i) && noF R i && only R i (some e) && sync R i g), .b true), (.b (chkD R ops i (dpOf R ops i) && gOk R ops i (dpOf R ops i) x true && (opAt ops i).dst.isNone), .b true),
        (.oe (curA (R.an i) x g), .oe (some (.box (boxB (curA (R.an i) x g)) (boxC (curA (R.an i) x g))))), (.ov (evE (rdx R ops i x) (opX (opAt ops i).op)), .ov (some (ptrOf (boxB (curA (R.an i) x g)) off))),
        (.ov (evE (rdx R ops i x) (opY (opAt ops i).op)), .ov (some (evD (rdx R ops i x) (opY (opAt ops i).op)))), (.b (storesOk P (opT (opAt ops i).op) (boxC (curA (R.an i) x g)) off (evD (rdx R ops i x) (opY (opAt ops i).op))), .b true),
        (.oe (curA (i :: R.an i) x g), .oe (some (.box (boxB (curA (R.an i) x g)) (putMany (boxC (curA (R.an i) x g)) off (evD (rdx R ops i x) (opY (opAt ops i).op)).cells.toList))))]
    | none => [(.bad, .b true)]
  | .al e => match R.T[plT R i]?, R.G[e]? with
    | some (i', d, f), some g => [(.b (Nat.beq i' i && noF R i && only R i (some e) && sync R i g && okR R ops i d (dpOf R ops i) x), .b true), (.v (f x), .v (ptrOf (blkOf (x i)) 0)),
        (.vs (freeT R i (upd x i v)), .vs (freeT R i x)), (.es (freeG R i (upd x i v)), .es (freeG R i x)), (.ps (freeF R i (upd x i v)), .ps (freeF R i x)),
        (.oe (curA (R.an i) x g), .oe none), (.oe (curA (i :: R.an i) x g), .oe (some (.box (blkOf (x i)) (boxC (curA (i :: R.an i) x g))))),
        (.r (runR P R ops i x w), .r (.ok (.value (ptrOf w.heap.size 0)) (w.alloc (.cells (boxC (curA (i :: R.an i) x g)).toArray (opT (opAt ops i).op))))), (.vs (boxC (curA (i :: R.an i) (upd x i v) g)), .vs (boxC (curA (i :: R.an i) x g)))]
    | _, _ => [(.bad, .b true)]

def chkAll (P : Program) (R : Reg) (ops : Array Oper) (KF : List Fac) (x : Gh) (v : Value) (w : World) : Nat → List RH → List (An × An)
  | _, [] => []
  | i, r :: l => chkO P R ops KF x v w i r ++ chkAll P R ops KF x v w (i + 1) l
/-- What is told for itself. -/
def Told (P : Program) (ops : Array Oper) (Q : Exit → Act → World → Prop) (R : Reg) : Nat → List RH → Prop
  | _, [] => True
  | i, .cl :: l => StepAt' P ops Q R i ∧ Told P ops Q R (i + 1) l
  | i, _ :: l => Told P ops Q R (i + 1) l

section
variable {P : Program} {ops : Array Oper} {Q : Exit → Act → World → Prop} {R : Reg} {KF : List Fac} {i : Nat}

theorem pair_eq {l : List (An × An)} (h : l.map (·.1) = l.map (·.2)) : ∀ e ∈ l, e.1 = e.2 := by
  induction l with
  | nil => intro e he; cases he
  | cons y l ih =>
    simp only [List.map_cons, List.cons.injEq] at h
    intro e he
    rcases List.mem_cons.1 he with rfl | he
    · exact h.1
    · exact ih h.2 e he

theorem op_load {o : Op} (h : isLoad o = true) : o = .load (opT o) (opX o) := by
  cases o <;> first | rfl | cases h
theorem op_store {o : Op} (h : isStore o = true) : o = .store (opT o) (opX o) (opY o) := by
  cases o <;> first | rfl | cases h

theorem stepR (hT : chkT R = true) (hA : chkA R ops = true) (hmono : ∀ q ∈ R.F, ∀ x h h', Sees h h' → q.2 x h → q.2 x h') (hKF : ∀ f ∈ KF, Cells R.h f.1 f.2.1 f.2.2) (r : RH) (hne : r ≠ .cl)
    (hc : ∀ x v w, ∀ e ∈ chkO P R ops KF x v w i r, e.1 = e.2) : StepAt' P ops Q R i := by
  cases r with
  | cl => exact absurd rfl hne
  | pu =>
    simp only [chkO] at hc
    split at hc
    · rename_i i' d f hp
      simp only [List.mem_cons, List.not_mem_nil, or_false, forall_eq_or_imp, forall_eq, An.b.injEq, An.r.injEq, Bool.and_eq_true] at hc
      obtain ⟨⟨⟨⟨c1, c2⟩, c3⟩, -⟩, -⟩ := hc (fun _ => undef) undef world0
      have c1 := Nat.eq_of_beq_eq_true c1
      subst c1
      exact r_pure hT hA d f (dpOf R ops i') _ hp c2 c3 (fun x => (hc x undef world0).1.2) (fun x w => (hc x undef w).2)
    · have := hc (fun _ => undef) undef world0 _ (List.mem_singleton.2 rfl); cases this
  | ps =>
    simp only [chkO] at hc
    split at hc
    · rename_i i' d f hp
      simp only [List.mem_cons, List.not_mem_nil, or_false, forall_eq_or_imp, forall_eq, An.b.injEq, An.v.injEq, Bool.and_eq_true] at hc
      obtain ⟨⟨⟨c1, c2⟩, c3⟩, -⟩ := hc (fun _ => undef) undef world0
      have c1 := Nat.eq_of_beq_eq_true c1
      subst c1
      have hf : f = fun _ => undef := funext fun x => (hc x undef world0).2.2
      subst hf
      exact r_pass hT hA d (dpOf R ops i') _ hp c2 c3 (fun x => by simp only [Bool.and_eq_true]; exact (hc x undef world0).2.1)
    · have := hc (fun _ => undef) undef world0 _ (List.mem_singleton.2 rfl); cases this
  | ld e off =>
    simp only [chkO] at hc
    split at hc
    · rename_i i' d f g hp hg
      simp only [List.mem_cons, List.not_mem_nil, or_false, forall_eq_or_imp, forall_eq, An.b.injEq, An.oe.injEq, An.ov.injEq, Bool.and_eq_true] at hc
      obtain ⟨⟨⟨⟨⟨⟨c1, c2⟩, c3⟩, c4⟩, -⟩, c6⟩, -⟩ := hc (fun _ => undef) undef world0
      have c1 := Nat.eq_of_beq_eq_true c1
      subst c1
      exact r_load hT hA d f (dpOf R ops i') _ hp c2 c3 (fun x => (hc x undef world0).1.1.2) e g hg c6 _ _ (fun x => (hc x undef world0).2.1) _ _ off (op_load c4) (fun x => (hc x undef world0).2.2.1) (fun x => (hc x undef world0).2.2.2)
    · have := hc (fun _ => undef) undef world0 _ (List.mem_singleton.2 rfl); cases this
  | lf j off =>
    simp only [chkO] at hc
    split at hc
    · rename_i i' d f b o0 cs hp hg
      simp only [List.mem_cons, List.not_mem_nil, or_false, forall_eq_or_imp, forall_eq, An.b.injEq, An.ov.injEq, Bool.and_eq_true] at hc
      obtain ⟨⟨⟨⟨⟨c1, c2⟩, c3⟩, c4⟩, -⟩, -⟩ := hc (fun _ => undef) undef world0
      have c1 := Nat.eq_of_beq_eq_true c1
      subst c1
      exact r_loadf hT hA d f (dpOf R ops i') _ hp c2 c3 (fun x => (hc x undef world0).1.2) (hKF _ (List.mem_of_getElem? hg)) (Sees.refl _) _ _ off (op_load c4) (fun x => (hc x undef world0).2.1) (fun x => (hc x undef world0).2.2)
    · have := hc (fun _ => undef) undef world0 _ (List.mem_singleton.2 rfl); cases this
  | st e off =>
    simp only [chkO] at hc
    split at hc
    · rename_i g hg
      simp only [List.mem_cons, List.not_mem_nil, or_false, forall_eq_or_imp, forall_eq, An.b.injEq, An.oe.injEq, An.ov.injEq, Bool.and_eq_true] at hc
      obtain ⟨⟨⟨⟨⟨c1, c2⟩, c3⟩, c4⟩, c5⟩, -⟩ := hc (fun _ => undef) undef world0
      refine r_store hT hA (dpOf R ops i) c2 c3 (fun x => by simp only [Bool.and_eq_true]; exact (hc x undef world0).2.1) e g hg c4 c5 (fun x => boxB (curA (R.an i) x g)) (fun x => boxC (curA (R.an i) x g)) _ (fun x => (hc x undef world0).2.2.1) (fun x => (hc x undef world0).2.2.2.2.2.2) _ _ _ off _ (op_store c1) (fun x => (hc x undef world0).2.2.2.1) (fun x => (hc x undef world0).2.2.2.2.1) (fun x => (hc x undef world0).2.2.2.2.2.1) (fun x => rfl)
    · have := hc (fun _ => undef) undef world0 _ (List.mem_singleton.2 rfl); cases this
  | al e =>
    simp only [chkO] at hc
    split at hc
    · rename_i i' d f g hp hg
      simp only [List.mem_cons, List.not_mem_nil, or_false, forall_eq_or_imp, forall_eq, An.b.injEq, An.oe.injEq, An.v.injEq, An.vs.injEq, An.es.injEq, An.ps.injEq, An.r.injEq, Bool.and_eq_true] at hc
      obtain ⟨⟨⟨⟨⟨c1, c3⟩, c4⟩, c5⟩, -⟩, -⟩ := hc (fun _ => undef) undef world0
      have c1 := Nat.eq_of_beq_eq_true c1
      subst c1
      have hf : f = fun x => .pointer (some ⟨blkOf (x i'), 0, none⟩) := funext fun x => (hc x undef world0).2.1
      subst hf
      exact r_alloc hT hA hmono ⟨fun x v => (hc x v world0).2.2.1, fun x v => (hc x v world0).2.2.2.1, fun x v => (hc x v world0).2.2.2.2.1⟩ c3 d (dpOf R ops i') _ hp (fun x => (hc x undef world0).1.2) e g hg c4 c5 (fun x => boxC (curA (i' :: R.an i') x g))
        (fun x => (hc x undef world0).2.2.2.2.2.1) (fun x => (hc x undef world0).2.2.2.2.2.2.1) _ (fun x w => (hc x undef w).2.2.2.2.2.2.2.1) (fun x v => (hc x v world0).2.2.2.2.2.2.2.2)
    · have := hc (fun _ => undef) undef world0 _ (List.mem_singleton.2 rfl); cases this

theorem stepsR (hT : chkT R = true) (hA : chkA R ops = true) (hmono : ∀ q ∈ R.F, ∀ x h h', Sees h h' → q.2 x h → q.2 x h') (hKF : ∀ f ∈ KF, Cells R.h f.1 f.2.1 f.2.2) :
    ∀ (l : List RH) (k : Nat), (∀ x v w, (chkAll P R ops KF x v w k l).map (·.1) = (chkAll P R ops KF x v w k l).map (·.2)) → Told P ops Q R k l → ∀ i, k ≤ i → i < k + l.length → StepAt' P ops Q R i
  | [], k, _, _, i, h1, h2 => by simp at h2; omega
  | r :: l, k, hc, ht, i, h1, h2 => by
    have hc1 : ∀ x v w, ∀ e ∈ chkO P R ops KF x v w k r, e.1 = e.2 := fun x v w e he => pair_eq (hc x v w) e (by unfold chkAll; exact List.mem_append_left _ he)
    have hc2 : ∀ x v w, (chkAll P R ops KF x v w (k + 1) l).map (·.1) = (chkAll P R ops KF x v w (k + 1) l).map (·.2) := fun x v w => by
      have := hc x v w
      unfold chkAll at this
      rw [List.map_append, List.map_append] at this
      exact (List.append_inj this (by simp)).2
    have ht2 : Told P ops Q R (k + 1) l := by
      unfold Told at ht
      cases r <;> first | exact ht | exact ht.2
    rcases Nat.eq_or_lt_of_le h1 with e | hlt
    · subst e
      cases r with
      | cl => unfold Told at ht; exact ht.1
      | pu => exact stepR hT hA hmono hKF .pu (by simp) hc1
      | ps => exact stepR hT hA hmono hKF .ps (by simp) hc1
      | ld e off => exact stepR hT hA hmono hKF (.ld e off) (by simp) hc1
      | lf e off => exact stepR hT hA hmono hKF (.lf e off) (by simp) hc1
      | st e off => exact stepR hT hA hmono hKF (.st e off) (by simp) hc1
      | al e => exact stepR hT hA hmono hKF (.al e) (by simp) hc1
    · exact stepsR hT hA hmono hKF l (k + 1) hc2 ht2 i hlt (by simp only [List.length_cons] at h2; omega)

def drawnOf : Code → Option (Array Oper)
  | .region _ ops true => some ops
  | _ => none
theorem drawnOf_some {c : Code} {ops : Array Oper} (h : drawnOf c = some ops) : ∃ id, c = .region id ops true := by
  unfold drawnOf at h
  split at h
  · simp only [Option.some.injEq] at h; subst h; exact ⟨_, rfl⟩
  · cases h

/-- The region's result, in the order in which the blocks are wanted. -/
theorem x_region {c0 : Code} {p : List Nat} {ks : List Kt} {B : List Ent} {a : Act} {w : World} {Q' : Exit → Act → World → Prop} (hm : P.follows .mixedOrders = true) (R : Reg) (hK : K R.C R.E B KF R.h a w) (n : Nat) (hints : List RH)
    (hst : ([.b (match drawnOf (sub c0 p) with | some ops => Nat.beq ops.size n && Nat.beq hints.length n && chkT R && chkA R ops && (R.G.all fun g => g.vers.all fun p => Nat.blt p.1 n) && (R.T.all fun t => Nat.blt t.1 n) && (R.F.all fun t => Nat.blt t.1 n) | none => false), .bs (R.G.filterMap (·.start))] : List Any) = [.b true, .bs B])
    (hmono : ∀ q ∈ R.F, ∀ x h h', Sees h h' → q.2 x h → q.2 x h')
    (hc : ∀ x v w, (chkAll P R (opsAt c0 p) KF x v w 0 hints).map (·.1) = (chkAll P R (opsAt c0 p) KF x v w 0 hints).map (·.2))
    (ht : chkT R = true → chkA R (opsAt c0 p) = true → Told P (opsAt c0 p) (post P c0 Q' ks) R 0 hints)
    (fin : ∀ x h' a w, Sees R.h h' → K R.C (R.T.map (fun t => (t.2.1, t.2.2 x)) ++ R.E) (R.G.filterMap (curA (List.range n) x)) KF h' a w → (∀ p ∈ R.F, p.2 x h') → Goal P c0 Q' (.out .normal) ks a w) : Goal P c0 Q' (.code p) ks a w := by
  simp only [List.cons.injEq, Any.b.injEq, Any.bs.injEq, and_true] at hst
  obtain ⟨h1, h2⟩ := hst
  split at h1
  · rename_i ops hops
    obtain ⟨id, hid⟩ := drawnOf_some hops
    simp only [Bool.and_eq_true] at h1
    obtain ⟨⟨⟨⟨⟨⟨c1, c2⟩, c3⟩, c4⟩, c5⟩, c6⟩, c7⟩ := h1
    have c1 := Nat.eq_of_beq_eq_true c1
    have c2 := Nat.eq_of_beq_eq_true c2
    have hoa : opsAt c0 p = ops := by unfold opsAt; rw [hid]; rfl
    rw [hoa] at hc ht
    unfold Goal
    simp only
    rw [hid]
    refine region_sx hm R n hK.j c1 c3 c4 h2 c5 c6 c7 (fun hT hA i hi => ?_) (fun x h' a w s j f => ?_)
    · exact stepsR hT hA hmono hK.f hints 0 hc (ht hT hA) i (Nat.zero_le _) (by omega)
    · exact fin x h' a w s ⟨j, hK.facs s⟩ f
  · cases h1
end

open Go.ChangeMaps Go.MapKept

section
variable {P : Program} {C : Fx} {c0 : Code} {Q : Exit → Act → World → Prop} {h h0 : Vw} {a : Act} {w w' : World} {p : List Nat} {n : Nat} {ks : List Kt} {E : List (Nat × Value)} {B : List Ent} {F : List Fac} {d : Nat}

/-- Block b holds the map of the pairs es. -/
structure MapAt (h : Vw) (b : Nat) (es : List (Value × Value)) : Prop where
  ok : b ∉ h.bad
  lies : h.w.heap[b]? = some (mapObj es)
theorem MapAt.lt {b : Nat} {es : List (Value × Value)} (k : MapAt h b es) : b < h.w.heap.size := (Array.getElem?_eq_some_iff.1 k.lies).1
theorem MapAt.sees {h' : Vw} {b : Nat} {es : List (Value × Value)} (k : MapAt h b es) (s : Sees h h') : MapAt h' b es :=
  ⟨fun g => k.ok (s.bad b g k.lt), (s.block b k.lt k.ok).trans k.lies⟩

/-- What is found of the key k. -/
def mfind (td : TypeDesc) (k : Value) (es : List (Value × Value)) : Option (Option (Nat × Value)) := Instr.findNow td k (ments es) 0
def keyOk (td : TypeDesc) (k : Value) : Bool := match td, k with
  | .int a, .int b _ => decide (a = b)
  | .string, .string _ => true
  | _, _ => false
def lookV (c : Bool) (r : Option (Nat × Value)) (z : Value) : Value := match c, r with
  | true, some x => .tuple #[x.2, .bool true]
  | true, none => .tuple #[z, .bool false]
  | false, some x => x.2
  | false, none => z

theorem isKey_of {td : TypeDesc} {k : Value} (h : keyOk td k = true) : IsKey td k := by
  cases td <;> cases k <;> simp_all [keyOk, IsKey]

theorem run_lookup_at {b : Nat} {es : List (Value × Value)} {t kt et : TypeId} {td : TypeDesc} {k z : Value} {c : Bool} {r : Option (Nat × Value)} (hb : w.heap[b]? = some (mapObj es)) (ht : P.underlying t = some (.map kt et)) (htd : P.underlying kt = some td) (hs : keyOk td k = true)
    (hf : mfind td k es = some r) (hz : ∀ w, (zeroValue et).run P w = .ok z w) : (Instr.lookup t (.map (some b)) k c).run P w = .ok (lookV c r z) w := by
  unfold mapObj at hb
  unfold Instr.lookup
  simp only [Sem.run_bind, run_underlying ht, Result.andThen, Go.MapKept.run_getObj_map hb, Sem.run_pure, Go.MapKept.run_checkKey htd (isKey_of hs), Go.MapKept.run_findKey htd (show Instr.findNow td k (ments es).toArray.toList 0 = some r from hf)]
  cases r with
  | none => cases c <;> simp [hz, Result.andThen, lookV]
  | some x => cases c <;> simp [lookV]

theorem ments_push (es : List (Value × Value)) (k v : Value) : ((ments es).toArray.push { key := k, val := v, born := es.length }) = (ments (es ++ [(k, v)])).toArray := by
  unfold ments
  rw [List.zipIdx_append, List.map_append]
  simp
theorem run_update_at {b : Nat} {es : List (Value × Value)} {t kt et : TypeId} {td : TypeDesc} {k v : Value} (hb : w.heap[b]? = some (mapObj es)) (ht : P.underlying t = some (.map kt et)) (htd : P.underlying kt = some td) (hs : keyOk td k = true)
    (hf : mfind td k es = some none) : (Instr.mapUpdate t (.map (some b)) k v).run P w = .ok () { w with heap := w.heap.setIfInBounds b (mapObj (es ++ [(k, v)])) } := by
  unfold mapObj at hb ⊢
  unfold Instr.mapUpdate
  simp only [Sem.run_bind, run_underlying ht, Result.andThen, Go.MapKept.run_getObj_map hb, Go.MapKept.run_checkKey htd (isKey_of hs), Go.MapKept.run_findKey htd (show Instr.findNow td k (ments es).toArray.toList 0 = some none from hf), Go.MapKept.run_setObj_map _ hb, ments_push]
  simp

/-- A new map of the call's own. -/
theorem J.newMap (hJ : J C E B h a w) : J C E (.map w.heap.size [] :: B) h a (w.alloc (.map #[] 0)) := by
  have hl : Low [] w (w.alloc (.map #[] 0)) := Low.of_below ((Below.refl _ _).alloc (Nat.le_refl _) _)
  have hg := hJ.grow hl
  refine ⟨hJ.fits, hJ.size, hJ.defers, hg.low, ⟨hg.sees.size, hg.sees.block, fun b hb hlt => ?_⟩, fun e he => ?_, ?_, fun b hb => ?_, hJ.badlt⟩
  · have hs := hJ.sees.size
    rcases List.mem_cons.1 hb with rfl | hb
    · exact absurd hlt (by simp only at hs; omega)
    · exact hg.sees.bad b hb hlt
  · rcases List.mem_cons.1 he with rfl | he
    · exact (Go.MapKept.heap_alloc w _).1
    · exact hg.ents e he
  · show (w.heap.size :: blk B).Nodup
    refine List.nodup_cons.2 ⟨fun hm => ?_, hJ.nodup⟩
    have := blk_lt hJ _ hm; omega
  · rcases List.mem_cons.1 hb with rfl | hb
    · exact .inl hJ.low.size
    · exact hJ.own b hb

def makeMapOp : Op → Bool
  | .makeMap _ none => true
  | _ => false
theorem goodOp_parts (hk : goodOp C E (opsAt c0 p) n d = true) : ∃ o r, (opsAt c0 p).toList.drop n = o :: r ∧ opAt (opsAt c0 p) n = o ∧ gKnown E (opsAt c0 p) o = some true ∧ o.dst = some d ∧ d < C.N ∧ opsKnown E o = true := by
  unfold goodOp at hk
  split at hk
  · rename_i o r hl
    simp only [Bool.and_eq_true] at hk
    obtain ⟨⟨⟨k1, k2⟩, k3⟩, k4⟩ := hk
    refine ⟨o, r, hl, drop_opAt hl, ?_, ?_, by simpa [Nat.blt_eq] using k3, k4⟩
    · split at k1
      · assumption
      · cases k1
    · split at k2
      · rename_i x e; rw [e, Nat.eq_of_beq_eq_true k2]
      · cases k2
  · cases hk
theorem x_mapmake (hK : K C E B F h a w) (d : Nat) (hk : goodOp C E (opsAt c0 p) n d = true) (hm : makeMapOp (opAt (opsAt c0 p) n).op = true) (k : ∀ b a w, K C ((d, .map (some b)) :: E) (.map b [] :: B) F h a w → Goal P c0 Q (.ops p (n + 1)) ks a w) : Goal P c0 Q (.ops p n) ks a w := by
  obtain ⟨o, r, hl, ho, hg, hd, hlt, hkn⟩ := goodOp_parts hk
  rw [ho] at hm
  have hr := drop_cons hl
  obtain ⟨t, e⟩ : ∃ t, o.op = .makeMap t none := by
    unfold makeMapOp at hm
    split at hm
    · rename_i t e; exact ⟨t, e⟩
    · cases hm
  refine goal_unguard hl (gKnown_wanted hK.j.fits hg) (wpList_plain rfl fun KK hKK => ?_)
  unfold Oper.wp
  rw [run_ev (o := { o with guard := none }) hK.j.fits hkn]
  have hrun : (execOp (evD E) { o with guard := none }).run P w = .ok (.value (.map (some w.heap.size))) (w.alloc (.map #[] 0)) := by
    unfold execOp
    simp only [e]
    simp [run_makeMap, Result.andThen]
  rw [hrun]
  refine hKK _ _ ?_
  rw [hr]
  exact k w.heap.size _ _ ⟨hK.j.newMap.putd _ hd hlt, hK.f⟩

/-- A store of a pair with a new key. -/
def setOp : Op → Option (TypeId × Operand × Operand × Operand)
  | .mapUpdate t m k v => some (t, m, k, v)
  | .insert t m k v => some (t, m, k, v)
  | _ => none
def goodOp0 (E : List (Nat × Value)) (ops : Array Oper) (n : Nat) : Bool :=
  match ops.toList.drop n with
  | o :: _ => (match gKnown E ops o with | some true => true | _ => false) && o.dst.isNone && opsKnown E o
  | [] => false
theorem J.setMap (hJ : J C E B h a w) {i b : Nat} {es es' : List (Value × Value)} (hB : B[i]? = some (.map b es)) : J C E (B.set i (.map b es')) h a { w with heap := w.heap.setIfInBounds b (mapObj es') } := by
  have hi := (List.getElem?_eq_some_iff.1 hB).1
  have hb : w.heap[b]? = some (mapObj es) := hJ.ents _ (List.mem_of_getElem? hB)
  have e1 : B = B.take i ++ .map b es :: B.drop (i + 1) := by
    have := List.set_eq_take_append_cons_drop (l := B) (i := i) (a := .map b es)
    rw [if_pos hi] at this
    rw [← this]
    refine (List.ext_getElem? fun j => ?_)
    rw [List.getElem?_set]
    split
    · subst_vars; rw [hB]
    · rfl
  have := List.set_eq_take_append_cons_drop (l := B) (i := i) (a := .map b es')
  rw [if_pos hi] at this
  rw [this]
  exact hJ.setE (x := .map b es) (x' := .map b es') (b := b) rfl rfl e1 ⟨rfl, rfl, rfl, by simp⟩ (Go.MapKept.heap_set hb).2 (Go.MapKept.heap_set hb).1
theorem x_mapset (hK : K C E B F h a w) (i : Nat) {b : Nat} {es : List (Value × Value)} {t kt et : TypeId} {td : TypeDesc} {mo ko vo : Operand} {key v : Value} (hk : goodOp0 E (opsAt c0 p) n = true) (hop : setOp (opAt (opsAt c0 p) n).op = some (t, mo, ko, vo)) (hB : B[i]? = some (.map b es))
    (hm : evE E mo = some (.map (some b))) (hkey : evE E ko = some key) (hv : evE E vo = some v) (ht : P.underlying t = some (.map kt et)) (htd : P.underlying kt = some td) (hs : keyOk td key = true) (hf : mfind td key es = some none)
    (k : ∀ a w, K C E (B.set i (.map b (es ++ [(key, v)]))) F h a w → Goal P c0 Q (.ops p (n + 1)) ks a w) : Goal P c0 Q (.ops p n) ks a w := by
  unfold goodOp0 at hk
  split at hk
  · rename_i o r hl
    simp only [Bool.and_eq_true] at hk
    obtain ⟨⟨k1, k2⟩, k3⟩ := hk
    have hg : gKnown E (opsAt c0 p) o = some true := by
      split at k1
      · assumption
      · cases k1
    have hr := drop_cons hl
    rw [drop_opAt hl] at hop
    refine goal_unguard hl (gKnown_wanted hK.j.fits hg) (wpList_plain rfl fun KK hKK => ?_)
    unfold Oper.wp
    rw [run_ev (o := { o with guard := none }) hK.j.fits k3]
    have hb : w.heap[b]? = some (mapObj es) := hK.j.ents _ (List.mem_of_getElem? hB)
    have e1 : evD E mo = .map (some b) := by simp [evD, hm]
    have e2 : evD E ko = key := by simp [evD, hkey]
    have e3 : evD E vo = v := by simp [evD, hv]
    have hu := run_update_at (P := P) (v := v) hb ht htd hs hf
    have hrun : (execOp (evD E) { o with guard := none }).run P w = .ok .skip { w with heap := w.heap.setIfInBounds b (mapObj (es ++ [(key, v)])) } := by
      unfold execOp
      unfold setOp at hop
      split at hop
      · rename_i e
        simp only [Option.some.injEq, Prod.mk.injEq] at hop
        obtain ⟨rfl, rfl, rfl, rfl⟩ := hop
        simp only [e, e1, e2, e3]
        simp [hu, Result.andThen]
      · rename_i e
        simp only [Option.some.injEq, Prod.mk.injEq] at hop
        obtain ⟨rfl, rfl, rfl, rfl⟩ := hop
        simp only [e, e1, e2, e3]
        simp [hu, Result.andThen]
      · cases hop
    rw [hrun]
    refine hKK _ _ ?_
    rw [hr]
    have hd : a.put ({ o with guard := none } : Oper).dst undef = a := by
      show a.put o.dst undef = a
      rw [show o.dst = none by simpa using k2]; rfl
    rw [hd]
    exact k _ _ ⟨hK.j.setMap (es' := es ++ [(key, v)]) hB, hK.f⟩
  · cases hk

/-- A look into a map. -/
def lookOp : Op → Option (TypeId × Operand × Operand × Bool)
  | .lookup t m k c => some (t, m, k, c)
  | _ => none
theorem x_mapget (hK : K C E B F h a w) (d : Nat) {b : Nat} {es : List (Value × Value)} {t kt et : TypeId} {td : TypeDesc} {mo ko : Operand} {key z v : Value} {c : Bool} {r : Option (Nat × Value)} (hk : goodOp C E (opsAt c0 p) n d = true) (hop : lookOp (opAt (opsAt c0 p) n).op = some (t, mo, ko, c))
    (hb : w.heap[b]? = some (mapObj es)) (hm : evE E mo = some (.map (some b))) (hkey : evE E ko = some key) (ht : P.underlying t = some (.map kt et)) (htd : P.underlying kt = some td) (hs : keyOk td key = true) (hf : mfind td key es = some r)
    (hz : ∀ w, (zeroValue et).run P w = .ok z w) (hv : lookV c r z = v) (k : ∀ a w, K C ((d, v) :: E) B F h a w → Goal P c0 Q (.ops p (n + 1)) ks a w) : Goal P c0 Q (.ops p n) ks a w := by
  obtain ⟨o, rr, hl, ho, hg, hd, hlt, hkn⟩ := goodOp_parts hk
  rw [ho] at hop
  have hr := drop_cons hl
  have e1 : evD E mo = .map (some b) := by simp [evD, hm]
  have e2 : evD E ko = key := by simp [evD, hkey]
  refine goal_unguard hl (gKnown_wanted hK.j.fits hg) (wpList_plain rfl fun KK hKK => ?_)
  unfold Oper.wp
  rw [run_ev (o := { o with guard := none }) hK.j.fits hkn]
  have hrun : (execOp (evD E) { o with guard := none }).run P w = .ok (.value v) w := by
    unfold execOp
    unfold lookOp at hop
    split at hop
    · rename_i e
      simp only [Option.some.injEq, Prod.mk.injEq] at hop
      obtain ⟨rfl, rfl, rfl, rfl⟩ := hop
      simp only [e, e1, e2]
      simp [run_lookup_at (c := _) hb ht htd hs hf hz, Result.andThen, hv]
    · cases hop
  rw [hrun]
  refine hKK _ _ ?_
  rw [hr]
  exact k _ _ ⟨hK.j.putd _ hd hlt, hK.f⟩
theorem K.map (hK : K C E B F h a w) (i : Nat) {b : Nat} {es : List (Value × Value)} (hB : B[i]? = some (.map b es)) : w.heap[b]? = some (mapObj es) := hK.j.ents _ (List.mem_of_getElem? hB)
theorem MapAt.now {b : Nat} {es : List (Value × Value)} (m : MapAt h b es) (hK : K C E B F h a w) : w.heap[b]? = some (mapObj es) := (m.sees hK.j.sees).lies
/-- A map of the call's own that is not written any more. -/
theorem K.mapOut (hK : K C E B F h a w) (i : Nat) {b : Nat} {es : List (Value × Value)} (hB : B[i]? = some (.map b es)) (hC : C.wr = []) : MapAt ⟨w, C.bad0⟩ b es := by
  have hm := List.mem_of_getElem? hB
  refine ⟨fun hb => ?_, hK.j.ents _ hm⟩
  rcases hK.j.own b (List.mem_flatMap.2 ⟨_, hm, by simp [Ent.blocks]⟩) with g | g
  · have := hK.j.badlt b hb; omega
  · rw [hC] at g; cases g

/-! ### Finding -/
theorem mfind_nil (td : TypeDesc) (k : Value) : mfind td k [] = some none := rfl
theorem findNow_shift {td : TypeDesc} {k : Value} : ∀ (l : List MapEntry) (i : Nat), (Instr.findNow td k l i).map (Option.map (·.2)) = (Instr.findNow td k l 0).map (Option.map (·.2))
  | [], i => rfl
  | e :: l, i => by
    unfold Instr.findNow
    split
    · rfl
    · rw [findNow_shift l (i + 1), findNow_shift l (0 + 1)]
    · rfl
/-- The value of a string key. -/
def sget (s : ByteArray) : List (ByteArray × Value) → Option Value
  | [] => none
  | (k, v) :: l => if s == k then some v else sget s l
abbrev strEs (l : List (ByteArray × Value)) : List (Value × Value) := l.map fun p => (.string p.1, p.2)
theorem find_str (s : ByteArray) : ∀ (l : List (ByteArray × Value)) (i j : Nat), (Instr.findNow .string (.string s) (((strEs l).zipIdx j).map fun p => ⟨p.1.1, p.1.2, p.2⟩) i).map (Option.map (·.2)) = some (sget s l)
  | [], i, j => rfl
  | (k, v) :: l, i, j => by
    simp only [strEs, List.map_cons, List.zipIdx_cons]
    unfold Instr.findNow
    have hsn : Instr.sameNow .string (.string s) (.string k) = some (s == k) := rfl
    simp only [hsn]
    unfold sget
    cases hsk : s == k with
    | true => rfl
    | false => simp only [Bool.false_eq_true, if_false]; exact find_str s l (i + 1) (j + 1)
theorem mfind_str (s : ByteArray) (l : List (ByteArray × Value)) : ∃ r, mfind .string (.string s) (strEs l) = some r ∧ r.map (·.2) = sget s l := by
  have := find_str s l 0 0
  unfold mfind ments
  cases h : Instr.findNow .string (.string s) (((strEs l).zipIdx).map fun p => ⟨p.1.1, p.1.2, p.2⟩) 0 with
  | none => rw [h] at this; cases this
  | some r => rw [h] at this; exact ⟨r, rfl, by simpa using this⟩
theorem mfind_some {s : ByteArray} {l : List (ByteArray × Value)} {v : Value} (h : sget s l = some v) : ∃ i, mfind .string (.string s) (strEs l) = some (some (i, v)) := by
  obtain ⟨r, h1, h2⟩ := mfind_str s l
  rw [h] at h2
  obtain ⟨⟨i, u⟩, e, e2⟩ := Option.map_eq_some_iff.1 h2
  subst e2
  exact ⟨i, by rw [h1, e]⟩
theorem mfind_none {s : ByteArray} {l : List (ByteArray × Value)} (h : sget s l = none) : mfind .string (.string s) (strEs l) = some none := by
  obtain ⟨r, h1, h2⟩ := mfind_str s l
  rw [h] at h2
  rw [h1, Option.map_eq_none_iff.1 h2]
end

end Go.Proofs.Ytgjndkphfabnnaa
