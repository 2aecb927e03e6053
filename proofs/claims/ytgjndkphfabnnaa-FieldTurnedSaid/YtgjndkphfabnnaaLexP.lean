/-
  The tokens of a text, in plain Lean: no program in sight.
-/
namespace Go.Proofs.Ytgjndkphfabnnaa

def isLet (c : UInt8) : Bool := decide (97 ≤ c.toNat ∧ c.toNat ≤ 122)
def isDig (c : UInt8) : Bool := decide (48 ≤ c.toNat ∧ c.toNat ≤ 57)
def isWord (c : UInt8) : Bool := isLet c || isDig c
def spanN (p : UInt8 → Bool) (l : List UInt8) : Nat := (l.takeWhile p).length

theorem spanN_le (p : UInt8 → Bool) (l : List UInt8) : spanN p l ≤ l.length := by
  unfold spanN; exact (List.takeWhile_sublist p).length_le
theorem spanN_cons (p : UInt8 → Bool) (c : UInt8) (l : List UInt8) : spanN p (c :: l) = if p c then spanN p l + 1 else 0 := by
  unfold spanN
  rw [List.takeWhile_cons]
  split <;> simp

structure Tok where
  kd : Int
  s : List UInt8
  vk : Int
  vn : Int
  vs : List UInt8

inductive OneR where
  | tok (t : Tok)
  | err (e : Int)

/-- A number's value; none: over. -/
def numV : List UInt8 → Int → Option Int
  | [], v => some v
  | c :: r, v => if 1099511627776 < 10 * v + ((c.toNat : Int) - 48) then none else numV r (10 * v + ((c.toNat : Int) - 48))

def numberF (l : List UInt8) : OneR :=
  if 1 < spanN isDig l ∧ l.head? = some 48 then .err 3
  else match numV (l.take (spanN isDig l)) 0 with
    | none => .err 7
    | some v => .tok ⟨1, l.take (spanN isDig l), 1, v, []⟩

/-- Behind the quote: how many bytes, and the text. Error 3: of no such form. -/
def quoteGo : List UInt8 → Nat → List UInt8 → Except Int (Nat × List UInt8)
  | [], _, _ => .error 3
  | [c], i, text => if c = 34 then (if 40 < text.length then .error 1 else .ok (i + 1, text)) else .error 3
  | c :: d :: r, i, text =>
    if c = 34 then (if 40 < text.length then .error 1 else .ok (i + 1, text))
    else if c = 92 then (if d = 34 ∨ d = 92 then quoteGo r (i + 2) (text ++ [d]) else .error 3)
    else if c.toNat < 32 ∨ 126 < c.toNat then .error 3 else quoteGo (d :: r) (i + 1) (text ++ [c])

def quoteF (l : List UInt8) : OneR :=
  match quoteGo l.tail 1 [] with
  | .error e => .err e
  | .ok (n, text) => .tok ⟨3, l.take n, 3, 0, text⟩

def signs : List (List UInt8) := [[60, 61], [33, 61], [60], [61], [43], [45], [42], [47], [37], [38], [40], [41], [44]]
def signF (l : List UInt8) : OneR :=
  match signs.find? (fun g => g.isPrefixOf l) with
  | some g => .tok ⟨4, g, 0, 0, []⟩
  | none => .err 3

def oneF : List UInt8 → OneR
  | [] => .err 3
  | c :: r =>
    if isDig c then numberF (c :: r)
    else if isLet c then (if 10 < spanN isWord (c :: r) then .err 1 else .tok ⟨2, (c :: r).take (spanN isWord (c :: r)), 0, 0, []⟩)
    else if c = 34 then quoteF (c :: r)
    else signF (c :: r)

/-- A token and where it stands. -/
structure TokA where
  t : Tok
  at' : Nat

def lexGo : Nat → List UInt8 → Nat → List TokA → Except (Nat × Int) (List TokA)
  | 0, _, _, acc => .ok acc
  | _ + 1, [], _, acc => .ok acc
  | f + 1, c :: r, a, acc =>
    if c = 32 then lexGo f r (a + 1) acc
    else match oneF (c :: r) with
      | .err e => .error (a, e)
      | .tok t => lexGo f ((c :: r).drop t.s.length) (a + t.s.length) (acc ++ [⟨t, a⟩])

def lexF (l : List UInt8) : Except (Nat × Int) (List TokA) := lexGo (l.length + 1) l 0 []

end Go.Proofs.Ytgjndkphfabnnaa
