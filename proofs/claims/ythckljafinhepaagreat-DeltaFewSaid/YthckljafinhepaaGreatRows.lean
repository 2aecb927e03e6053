/-
  No cell of these rows narrows 'for every input' (looked for: loops, veiled, ifaces, maps, wideKeys, modest, calm, conditions, laid).
  DERIVED. THE GIVEN ROWS OF THIS SEAT. 12 by the template 'for every input the law returns true; each argument reads behind the call as it read before'; 0 by the template 'total and deterministic' (their statements: YthckljafinhepaaGreatTotals.lean).
  GIVEN WITH THE SEED: the statements are not yours to turn. If you find one false, say at which input.
  Laid BY PROGRAM, IN A SANDBOX (cutbox-rows.mjs): the forced cells as the released guide's own fill.sh prints them over the translation 9cb486f19ef2467d… (all of the seat's roots in one cut). By AI agents, Wed Nov 11 2026. No macro, syntax, notation, axiom, sorry.
-/
import Derived.Test.YthckljafinhepaaGreatChecked
import GoSem.Claim
import GoSem.ClaimJoined
import GoSem.ClaimMapViews
import Derived.JoinedTies
import Derived.KernelRfl
namespace Go.Proofs.YthckljafinhepaaGreat
/- THE CELL 'sum', in the pinned program and in every row, IS THE sha256 OF THE DUMP (.gsa) THAT YthckljafinhepaaGreatProg.lean LOADS. Nothing in Lean hashes anything: it is a label: what it is worth is what the hold of that sum in a sandbox is worth. -/
noncomputable def Tryz.pinned : Pinned := { name := "ythckljafinhepaagreat", sum := "9cb486f19ef2467df90ba7d05ede19134ecf22370f3418b885c1a60750b5c4e3", checked := Tryz.checked }
namespace Rows
def none {H : Type} : Left H := { results := [], args := [] }

/-- 'lychwaykeep.WholeFixed': WHATEVER THE INPUT: true; the input reads as it did. -/
def wholeFixedSpec : ChangeSpec := { name := "wholeFixed", fn := fun _ => fun
  | [d1, d2] => { results := [.lit (.bool true)], args := [d1, d2] }
  | _ => none }
def wholeFixedRow : OpenClaim := { program := "ythckljafinhepaagreat", sum := "9cb486f19ef2467df90ba7d05ede19134ecf22370f3418b885c1a60750b5c4e3", func := "lychway/lychwaykeep.WholeFixed", spec := "wholeFixed", unfollowed := true, recurses := true, apart := false }
def WholeFixedSaid : Prop := wholeFixedRow.holds Tryz.pinned (OpenSpec.ofChange wholeFixedSpec)

/-- ITS FALSE NEIGHBOUR: 'it returns false'. Refute it at one input. -/
def wholeFixedWrong : ChangeSpec := { name := "wholeFixed", fn := fun _ => fun
  | [d1, d2] => { results := [.lit (.bool false)], args := [d1, d2] }
  | _ => none }
def WholeFixedWrongFalsely : Prop := wholeFixedRow.holds Tryz.pinned (OpenSpec.ofChange wholeFixedWrong)

/-- 'lychwaykeep.WholeAnswered': WHATEVER THE INPUT: true; the input reads as it did. -/
def wholeAnsweredSpec : ChangeSpec := { name := "wholeAnswered", fn := fun _ => fun
  | [d1, d2] => { results := [.lit (.bool true)], args := [d1, d2] }
  | _ => none }
def wholeAnsweredRow : OpenClaim := { program := "ythckljafinhepaagreat", sum := "9cb486f19ef2467df90ba7d05ede19134ecf22370f3418b885c1a60750b5c4e3", func := "lychway/lychwaykeep.WholeAnswered", spec := "wholeAnswered", unfollowed := true, recurses := true, apart := false }
def WholeAnsweredSaid : Prop := wholeAnsweredRow.holds Tryz.pinned (OpenSpec.ofChange wholeAnsweredSpec)

/-- ITS FALSE NEIGHBOUR: 'it returns false'. Refute it at one input. -/
def wholeAnsweredWrong : ChangeSpec := { name := "wholeAnswered", fn := fun _ => fun
  | [d1, d2] => { results := [.lit (.bool false)], args := [d1, d2] }
  | _ => none }
def WholeAnsweredWrongFalsely : Prop := wholeAnsweredRow.holds Tryz.pinned (OpenSpec.ofChange wholeAnsweredWrong)

/-- 'lychwaykeep.WholeGrows': WHATEVER THE INPUT: true; the input reads as it did. -/
def wholeGrowsSpec : ChangeSpec := { name := "wholeGrows", fn := fun _ => fun
  | [d1, d2, d3] => { results := [.lit (.bool true)], args := [d1, d2, d3] }
  | _ => none }
def wholeGrowsRow : OpenClaim := { program := "ythckljafinhepaagreat", sum := "9cb486f19ef2467df90ba7d05ede19134ecf22370f3418b885c1a60750b5c4e3", func := "lychway/lychwaykeep.WholeGrows", spec := "wholeGrows", unfollowed := true, recurses := true, apart := false }
def WholeGrowsSaid : Prop := wholeGrowsRow.holds Tryz.pinned (OpenSpec.ofChange wholeGrowsSpec)

/-- ITS FALSE NEIGHBOUR: 'it returns false'. Refute it at one input. -/
def wholeGrowsWrong : ChangeSpec := { name := "wholeGrows", fn := fun _ => fun
  | [d1, d2, d3] => { results := [.lit (.bool false)], args := [d1, d2, d3] }
  | _ => none }
def WholeGrowsWrongFalsely : Prop := wholeGrowsRow.holds Tryz.pinned (OpenSpec.ofChange wholeGrowsWrong)

/-- 'lychwaykeep.WholeTold': WHATEVER THE INPUT: true; the input reads as it did. -/
def wholeToldSpec : ChangeSpec := { name := "wholeTold", fn := fun _ => fun
  | [d1, d2] => { results := [.lit (.bool true)], args := [d1, d2] }
  | _ => none }
def wholeToldRow : OpenClaim := { program := "ythckljafinhepaagreat", sum := "9cb486f19ef2467df90ba7d05ede19134ecf22370f3418b885c1a60750b5c4e3", func := "lychway/lychwaykeep.WholeTold", spec := "wholeTold", unfollowed := true, recurses := true, apart := false }
def WholeToldSaid : Prop := wholeToldRow.holds Tryz.pinned (OpenSpec.ofChange wholeToldSpec)

/-- ITS FALSE NEIGHBOUR: 'it returns false'. Refute it at one input. -/
def wholeToldWrong : ChangeSpec := { name := "wholeTold", fn := fun _ => fun
  | [d1, d2] => { results := [.lit (.bool false)], args := [d1, d2] }
  | _ => none }
def WholeToldWrongFalsely : Prop := wholeToldRow.holds Tryz.pinned (OpenSpec.ofChange wholeToldWrong)

/-- 'lychwaykeep.WholeTurned': WHATEVER THE INPUT: true; the input reads as it did. -/
def wholeTurnedSpec : ChangeSpec := { name := "wholeTurned", fn := fun _ => fun
  | [d1, d2, d3] => { results := [.lit (.bool true)], args := [d1, d2, d3] }
  | _ => none }
def wholeTurnedRow : OpenClaim := { program := "ythckljafinhepaagreat", sum := "9cb486f19ef2467df90ba7d05ede19134ecf22370f3418b885c1a60750b5c4e3", func := "lychway/lychwaykeep.WholeTurned", spec := "wholeTurned", unfollowed := true, recurses := true, apart := false }
def WholeTurnedSaid : Prop := wholeTurnedRow.holds Tryz.pinned (OpenSpec.ofChange wholeTurnedSpec)

/-- ITS FALSE NEIGHBOUR: 'it returns false'. Refute it at one input. -/
def wholeTurnedWrong : ChangeSpec := { name := "wholeTurned", fn := fun _ => fun
  | [d1, d2, d3] => { results := [.lit (.bool false)], args := [d1, d2, d3] }
  | _ => none }
def WholeTurnedWrongFalsely : Prop := wholeTurnedRow.holds Tryz.pinned (OpenSpec.ofChange wholeTurnedWrong)

/-- 'lychwaykeep.DeltaTold': WHATEVER THE INPUT: true; the input reads as it did. -/
def deltaToldSpec : ChangeSpec := { name := "deltaTold", fn := fun _ => fun
  | [d1, d2, d3] => { results := [.lit (.bool true)], args := [d1, d2, d3] }
  | _ => none }
def deltaToldRow : OpenClaim := { program := "ythckljafinhepaagreat", sum := "9cb486f19ef2467df90ba7d05ede19134ecf22370f3418b885c1a60750b5c4e3", func := "lychway/lychwaykeep.DeltaTold", spec := "deltaTold", unfollowed := true, recurses := true, apart := false }
def DeltaToldSaid : Prop := deltaToldRow.holds Tryz.pinned (OpenSpec.ofChange deltaToldSpec)

/-- ITS FALSE NEIGHBOUR: 'it returns false'. Refute it at one input. -/
def deltaToldWrong : ChangeSpec := { name := "deltaTold", fn := fun _ => fun
  | [d1, d2, d3] => { results := [.lit (.bool false)], args := [d1, d2, d3] }
  | _ => none }
def DeltaToldWrongFalsely : Prop := deltaToldRow.holds Tryz.pinned (OpenSpec.ofChange deltaToldWrong)

/-- 'lychwaykeep.DeltaSame': WHATEVER THE INPUT: true; the input reads as it did. -/
def deltaSameSpec : ChangeSpec := { name := "deltaSame", fn := fun _ => fun
  | [d1, d2, d3, d4] => { results := [.lit (.bool true)], args := [d1, d2, d3, d4] }
  | _ => none }
def deltaSameRow : OpenClaim := { program := "ythckljafinhepaagreat", sum := "9cb486f19ef2467df90ba7d05ede19134ecf22370f3418b885c1a60750b5c4e3", func := "lychway/lychwaykeep.DeltaSame", spec := "deltaSame", unfollowed := true, recurses := true, apart := false }
def DeltaSameSaid : Prop := deltaSameRow.holds Tryz.pinned (OpenSpec.ofChange deltaSameSpec)

/-- ITS FALSE NEIGHBOUR: 'it returns false'. Refute it at one input. -/
def deltaSameWrong : ChangeSpec := { name := "deltaSame", fn := fun _ => fun
  | [d1, d2, d3, d4] => { results := [.lit (.bool false)], args := [d1, d2, d3, d4] }
  | _ => none }
def DeltaSameWrongFalsely : Prop := deltaSameRow.holds Tryz.pinned (OpenSpec.ofChange deltaSameWrong)

/-- 'lychwaykeep.DeltaBack': WHATEVER THE INPUT: true; the input reads as it did. -/
def deltaBackSpec : ChangeSpec := { name := "deltaBack", fn := fun _ => fun
  | [d1, d2, d3, d4] => { results := [.lit (.bool true)], args := [d1, d2, d3, d4] }
  | _ => none }
def deltaBackRow : OpenClaim := { program := "ythckljafinhepaagreat", sum := "9cb486f19ef2467df90ba7d05ede19134ecf22370f3418b885c1a60750b5c4e3", func := "lychway/lychwaykeep.DeltaBack", spec := "deltaBack", unfollowed := true, recurses := true, apart := false }
def DeltaBackSaid : Prop := deltaBackRow.holds Tryz.pinned (OpenSpec.ofChange deltaBackSpec)

/-- ITS FALSE NEIGHBOUR: 'it returns false'. Refute it at one input. -/
def deltaBackWrong : ChangeSpec := { name := "deltaBack", fn := fun _ => fun
  | [d1, d2, d3, d4] => { results := [.lit (.bool false)], args := [d1, d2, d3, d4] }
  | _ => none }
def DeltaBackWrongFalsely : Prop := deltaBackRow.holds Tryz.pinned (OpenSpec.ofChange deltaBackWrong)

/-- 'lychwaykeep.DeltaFew': WHATEVER THE INPUT: true; the input reads as it did. -/
def deltaFewSpec : ChangeSpec := { name := "deltaFew", fn := fun _ => fun
  | [d1, d2, d3, d4] => { results := [.lit (.bool true)], args := [d1, d2, d3, d4] }
  | _ => none }
def deltaFewRow : OpenClaim := { program := "ythckljafinhepaagreat", sum := "9cb486f19ef2467df90ba7d05ede19134ecf22370f3418b885c1a60750b5c4e3", func := "lychway/lychwaykeep.DeltaFew", spec := "deltaFew", unfollowed := true, recurses := true, apart := false }
def DeltaFewSaid : Prop := deltaFewRow.holds Tryz.pinned (OpenSpec.ofChange deltaFewSpec)

/-- ITS FALSE NEIGHBOUR: 'it returns false'. Refute it at one input. -/
def deltaFewWrong : ChangeSpec := { name := "deltaFew", fn := fun _ => fun
  | [d1, d2, d3, d4] => { results := [.lit (.bool false)], args := [d1, d2, d3, d4] }
  | _ => none }
def DeltaFewWrongFalsely : Prop := deltaFewRow.holds Tryz.pinned (OpenSpec.ofChange deltaFewWrong)

/-- 'lychwaykeep.NavLacks': WHATEVER THE INPUT: true; the input reads as it did. -/
def navLacksSpec : ChangeSpec := { name := "navLacks", fn := fun _ => fun
  | [d1, d2, d3] => { results := [.lit (.bool true)], args := [d1, d2, d3] }
  | _ => none }
def navLacksRow : OpenClaim := { program := "ythckljafinhepaagreat", sum := "9cb486f19ef2467df90ba7d05ede19134ecf22370f3418b885c1a60750b5c4e3", func := "lychway/lychwaykeep.NavLacks", spec := "navLacks", unfollowed := true, recurses := true, apart := false }
def NavLacksSaid : Prop := navLacksRow.holds Tryz.pinned (OpenSpec.ofChange navLacksSpec)

/-- ITS FALSE NEIGHBOUR: 'it returns false'. Refute it at one input. -/
def navLacksWrong : ChangeSpec := { name := "navLacks", fn := fun _ => fun
  | [d1, d2, d3] => { results := [.lit (.bool false)], args := [d1, d2, d3] }
  | _ => none }
def NavLacksWrongFalsely : Prop := navLacksRow.holds Tryz.pinned (OpenSpec.ofChange navLacksWrong)

/-- 'lychwaykeep.NavGoes': WHATEVER THE INPUT: true; the input reads as it did. -/
def navGoesSpec : ChangeSpec := { name := "navGoes", fn := fun _ => fun
  | [d1, d2] => { results := [.lit (.bool true)], args := [d1, d2] }
  | _ => none }
def navGoesRow : OpenClaim := { program := "ythckljafinhepaagreat", sum := "9cb486f19ef2467df90ba7d05ede19134ecf22370f3418b885c1a60750b5c4e3", func := "lychway/lychwaykeep.NavGoes", spec := "navGoes", unfollowed := true, recurses := true, apart := false }
def NavGoesSaid : Prop := navGoesRow.holds Tryz.pinned (OpenSpec.ofChange navGoesSpec)

/-- ITS FALSE NEIGHBOUR: 'it returns false'. Refute it at one input. -/
def navGoesWrong : ChangeSpec := { name := "navGoes", fn := fun _ => fun
  | [d1, d2] => { results := [.lit (.bool false)], args := [d1, d2] }
  | _ => none }
def NavGoesWrongFalsely : Prop := navGoesRow.holds Tryz.pinned (OpenSpec.ofChange navGoesWrong)

/-- 'lychwaykeep.NavBack': WHATEVER THE INPUT: true; the input reads as it did. -/
def navBackSpec : ChangeSpec := { name := "navBack", fn := fun _ => fun
  | [d1, d2] => { results := [.lit (.bool true)], args := [d1, d2] }
  | _ => none }
def navBackRow : OpenClaim := { program := "ythckljafinhepaagreat", sum := "9cb486f19ef2467df90ba7d05ede19134ecf22370f3418b885c1a60750b5c4e3", func := "lychway/lychwaykeep.NavBack", spec := "navBack", unfollowed := true, recurses := true, apart := false }
def NavBackSaid : Prop := navBackRow.holds Tryz.pinned (OpenSpec.ofChange navBackSpec)

/-- ITS FALSE NEIGHBOUR: 'it returns false'. Refute it at one input. -/
def navBackWrong : ChangeSpec := { name := "navBack", fn := fun _ => fun
  | [d1, d2] => { results := [.lit (.bool false)], args := [d1, d2] }
  | _ => none }
def NavBackWrongFalsely : Prop := navBackRow.holds Tryz.pinned (OpenSpec.ofChange navBackWrong)

/- THE SECOND FORM. 'bulk': how many values and letters a reading holds, each counted each time it is reached (what is shared counts as often as it is met; a slice's spare places count too). A statement '..UptoSaid' is the law's where the arguments, and the package variables that the reading takes, are together of bulk at most 1048576: NARROWER than '..Said'. Prove '..Said' where nothing that the law and all that it calls make is longer than what came in: it says more and counts as full. Else prove '..UptoSaid'. A law counts once. -/
mutual
def uptoBulk {H : Type} : DataW H → Nat
  | .lit (.string bytes) => bytes.length + 1
  | .lit _ => 1
  | .nil => 1
  | .ptr d => uptoBulk d + 1
  | .slice elems spare => uptoBulkAll elems + uptoBulkAll spare + 1
  | .agg parts => uptoBulkAll parts + 1
  | .iface _ d => uptoBulk d + 1
  | .map entries => uptoBulkEntries entries + 1
  | .held _ => 1
def uptoBulkAll {H : Type} : List (DataW H) → Nat
  | [] => 0
  | d :: r => uptoBulk d + uptoBulkAll r
def uptoBulkEntries {H : Type} : List (Lit × DataW H) → Nat
  | [] => 0
  | x :: r => uptoBulkEntry x + uptoBulkEntries r
def uptoBulkEntry {H : Type} : Lit × DataW H → Nat
  | (.string bytes, d) => bytes.length + uptoBulk d + 1
  | (_, d) => uptoBulk d + 1
 end
def uptoSmall : (H : Type) → List (DataW H) → Bool := fun _ ds => decide (uptoBulkAll ds ≤ 1048576)
def OpenSpec.upto (s : _root_.Go.ChangeSpec) : _root_.Go.OpenSpec := { _root_.Go.OpenSpec.ofChange s with cond := some uptoSmall }

/-- 'lychwaykeep.WholeFixed', WHERE WHAT IT READS IS OF BULK AT MOST 1048576: true; the input reads as it did. -/
def wholeFixedUptoRow : OpenClaim := { program := "ythckljafinhepaagreat", sum := "9cb486f19ef2467df90ba7d05ede19134ecf22370f3418b885c1a60750b5c4e3", func := "lychway/lychwaykeep.WholeFixed", spec := "wholeFixed", unfollowed := true, recurses := true, apart := false, narrowed := true }
def WholeFixedUptoSaid : Prop := wholeFixedUptoRow.holds Tryz.pinned (OpenSpec.upto wholeFixedSpec)

/-- 'lychwaykeep.WholeAnswered', WHERE WHAT IT READS IS OF BULK AT MOST 1048576: true; the input reads as it did. -/
def wholeAnsweredUptoRow : OpenClaim := { program := "ythckljafinhepaagreat", sum := "9cb486f19ef2467df90ba7d05ede19134ecf22370f3418b885c1a60750b5c4e3", func := "lychway/lychwaykeep.WholeAnswered", spec := "wholeAnswered", unfollowed := true, recurses := true, apart := false, narrowed := true }
def WholeAnsweredUptoSaid : Prop := wholeAnsweredUptoRow.holds Tryz.pinned (OpenSpec.upto wholeAnsweredSpec)

/-- 'lychwaykeep.WholeGrows', WHERE WHAT IT READS IS OF BULK AT MOST 1048576: true; the input reads as it did. -/
def wholeGrowsUptoRow : OpenClaim := { program := "ythckljafinhepaagreat", sum := "9cb486f19ef2467df90ba7d05ede19134ecf22370f3418b885c1a60750b5c4e3", func := "lychway/lychwaykeep.WholeGrows", spec := "wholeGrows", unfollowed := true, recurses := true, apart := false, narrowed := true }
def WholeGrowsUptoSaid : Prop := wholeGrowsUptoRow.holds Tryz.pinned (OpenSpec.upto wholeGrowsSpec)

/-- 'lychwaykeep.WholeTold', WHERE WHAT IT READS IS OF BULK AT MOST 1048576: true; the input reads as it did. -/
def wholeToldUptoRow : OpenClaim := { program := "ythckljafinhepaagreat", sum := "9cb486f19ef2467df90ba7d05ede19134ecf22370f3418b885c1a60750b5c4e3", func := "lychway/lychwaykeep.WholeTold", spec := "wholeTold", unfollowed := true, recurses := true, apart := false, narrowed := true }
def WholeToldUptoSaid : Prop := wholeToldUptoRow.holds Tryz.pinned (OpenSpec.upto wholeToldSpec)

/-- 'lychwaykeep.WholeTurned', WHERE WHAT IT READS IS OF BULK AT MOST 1048576: true; the input reads as it did. -/
def wholeTurnedUptoRow : OpenClaim := { program := "ythckljafinhepaagreat", sum := "9cb486f19ef2467df90ba7d05ede19134ecf22370f3418b885c1a60750b5c4e3", func := "lychway/lychwaykeep.WholeTurned", spec := "wholeTurned", unfollowed := true, recurses := true, apart := false, narrowed := true }
def WholeTurnedUptoSaid : Prop := wholeTurnedUptoRow.holds Tryz.pinned (OpenSpec.upto wholeTurnedSpec)

/-- 'lychwaykeep.DeltaTold', WHERE WHAT IT READS IS OF BULK AT MOST 1048576: true; the input reads as it did. -/
def deltaToldUptoRow : OpenClaim := { program := "ythckljafinhepaagreat", sum := "9cb486f19ef2467df90ba7d05ede19134ecf22370f3418b885c1a60750b5c4e3", func := "lychway/lychwaykeep.DeltaTold", spec := "deltaTold", unfollowed := true, recurses := true, apart := false, narrowed := true }
def DeltaToldUptoSaid : Prop := deltaToldUptoRow.holds Tryz.pinned (OpenSpec.upto deltaToldSpec)

/-- 'lychwaykeep.DeltaSame', WHERE WHAT IT READS IS OF BULK AT MOST 1048576: true; the input reads as it did. -/
def deltaSameUptoRow : OpenClaim := { program := "ythckljafinhepaagreat", sum := "9cb486f19ef2467df90ba7d05ede19134ecf22370f3418b885c1a60750b5c4e3", func := "lychway/lychwaykeep.DeltaSame", spec := "deltaSame", unfollowed := true, recurses := true, apart := false, narrowed := true }
def DeltaSameUptoSaid : Prop := deltaSameUptoRow.holds Tryz.pinned (OpenSpec.upto deltaSameSpec)

/-- 'lychwaykeep.DeltaBack', WHERE WHAT IT READS IS OF BULK AT MOST 1048576: true; the input reads as it did. -/
def deltaBackUptoRow : OpenClaim := { program := "ythckljafinhepaagreat", sum := "9cb486f19ef2467df90ba7d05ede19134ecf22370f3418b885c1a60750b5c4e3", func := "lychway/lychwaykeep.DeltaBack", spec := "deltaBack", unfollowed := true, recurses := true, apart := false, narrowed := true }
def DeltaBackUptoSaid : Prop := deltaBackUptoRow.holds Tryz.pinned (OpenSpec.upto deltaBackSpec)

/-- 'lychwaykeep.DeltaFew', WHERE WHAT IT READS IS OF BULK AT MOST 1048576: true; the input reads as it did. -/
def deltaFewUptoRow : OpenClaim := { program := "ythckljafinhepaagreat", sum := "9cb486f19ef2467df90ba7d05ede19134ecf22370f3418b885c1a60750b5c4e3", func := "lychway/lychwaykeep.DeltaFew", spec := "deltaFew", unfollowed := true, recurses := true, apart := false, narrowed := true }
def DeltaFewUptoSaid : Prop := deltaFewUptoRow.holds Tryz.pinned (OpenSpec.upto deltaFewSpec)

/-- 'lychwaykeep.NavLacks', WHERE WHAT IT READS IS OF BULK AT MOST 1048576: true; the input reads as it did. -/
def navLacksUptoRow : OpenClaim := { program := "ythckljafinhepaagreat", sum := "9cb486f19ef2467df90ba7d05ede19134ecf22370f3418b885c1a60750b5c4e3", func := "lychway/lychwaykeep.NavLacks", spec := "navLacks", unfollowed := true, recurses := true, apart := false, narrowed := true }
def NavLacksUptoSaid : Prop := navLacksUptoRow.holds Tryz.pinned (OpenSpec.upto navLacksSpec)

/-- 'lychwaykeep.NavGoes', WHERE WHAT IT READS IS OF BULK AT MOST 1048576: true; the input reads as it did. -/
def navGoesUptoRow : OpenClaim := { program := "ythckljafinhepaagreat", sum := "9cb486f19ef2467df90ba7d05ede19134ecf22370f3418b885c1a60750b5c4e3", func := "lychway/lychwaykeep.NavGoes", spec := "navGoes", unfollowed := true, recurses := true, apart := false, narrowed := true }
def NavGoesUptoSaid : Prop := navGoesUptoRow.holds Tryz.pinned (OpenSpec.upto navGoesSpec)

/-- 'lychwaykeep.NavBack', WHERE WHAT IT READS IS OF BULK AT MOST 1048576: true; the input reads as it did. -/
def navBackUptoRow : OpenClaim := { program := "ythckljafinhepaagreat", sum := "9cb486f19ef2467df90ba7d05ede19134ecf22370f3418b885c1a60750b5c4e3", func := "lychway/lychwaykeep.NavBack", spec := "navBack", unfollowed := true, recurses := true, apart := false, narrowed := true }
def NavBackUptoSaid : Prop := navBackUptoRow.holds Tryz.pinned (OpenSpec.upto navBackSpec)

end Rows
end Go.Proofs.YthckljafinhepaaGreat
