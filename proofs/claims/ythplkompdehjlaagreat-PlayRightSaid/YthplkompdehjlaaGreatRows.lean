/-
  No cell of these rows narrows 'for every input' (looked for: loops, veiled, ifaces, maps, wideKeys, modest, calm, conditions, laid).
  DERIVED. THE GIVEN ROWS OF THIS SEAT. 3 by the template 'for every input the law returns true; each argument reads behind the call as it read before'; 0 by the template 'total and deterministic' (their statements: YthplkompdehjlaaGreatTotals.lean).
  GIVEN WITH THE SEED: the statements are not yours to turn. If you find one false, say at which input.
  Laid BY PROGRAM, IN A SANDBOX (cutbox-rows.mjs): the forced cells as the released guide's own fill.sh prints them over the translation dcdbe2230ac8ce7e… (all of the seat's roots in one cut). By AI agents, Wed Nov 11 2026. No macro, syntax, notation, axiom, sorry.
-/
import Derived.Test.YthplkompdehjlaaGreatChecked
import GoSem.Claim
import GoSem.ClaimJoined
import GoSem.ClaimMapViews
import Derived.JoinedTies
import Derived.KernelRfl
namespace Go.Proofs.YthplkompdehjlaaGreat
/- THE CELL 'sum', in the pinned program and in every row, IS THE sha256 OF THE DUMP (.gsa) THAT YthplkompdehjlaaGreatProg.lean LOADS. Nothing in Lean hashes anything: it is a label: what it is worth is what the hold of that sum in a sandbox is worth. -/
noncomputable def Tryz.pinned : Pinned := { name := "ythplkompdehjlaagreat", sum := "dcdbe2230ac8ce7e6d689d99bb48053ad605d087861f5805e1cb6c1a5e5b34c5", checked := Tryz.checked }
namespace Rows
def none {H : Type} : Left H := { results := [], args := [] }

/-- 'lychwaykeep.EngineOwn': WHATEVER THE INPUT: true; the input reads as it did. -/
def engineOwnSpec : ChangeSpec := { name := "engineOwn", fn := fun _ => fun
  | [d1, d2, d3] => { results := [.lit (.bool true)], args := [d1, d2, d3] }
  | _ => none }
def engineOwnRow : OpenClaim := { program := "ythplkompdehjlaagreat", sum := "dcdbe2230ac8ce7e6d689d99bb48053ad605d087861f5805e1cb6c1a5e5b34c5", func := "lychway/lychwaykeep.EngineOwn", spec := "engineOwn", unfollowed := true, recurses := true, apart := false }
def EngineOwnSaid : Prop := engineOwnRow.holds Tryz.pinned (OpenSpec.ofChange engineOwnSpec)

/-- ITS FALSE NEIGHBOUR: 'it returns false'. Refute it at one input. -/
def engineOwnWrong : ChangeSpec := { name := "engineOwn", fn := fun _ => fun
  | [d1, d2, d3] => { results := [.lit (.bool false)], args := [d1, d2, d3] }
  | _ => none }
def EngineOwnWrongFalsely : Prop := engineOwnRow.holds Tryz.pinned (OpenSpec.ofChange engineOwnWrong)

/-- 'lychwaykeep.PlayRefuses': WHATEVER THE INPUT: true; the input reads as it did. -/
def playRefusesSpec : ChangeSpec := { name := "playRefuses", fn := fun _ => fun
  | [d1, d2] => { results := [.lit (.bool true)], args := [d1, d2] }
  | _ => none }
def playRefusesRow : OpenClaim := { program := "ythplkompdehjlaagreat", sum := "dcdbe2230ac8ce7e6d689d99bb48053ad605d087861f5805e1cb6c1a5e5b34c5", func := "lychway/lychwaykeep.PlayRefuses", spec := "playRefuses", inPlace := ["slices.overlaps[lychway/api.Letter]"], unfollowed := true, recurses := true, apart := false }
def PlayRefusesSaid : Prop := playRefusesRow.holds Tryz.pinned (OpenSpec.ofChange playRefusesSpec)

/-- ITS FALSE NEIGHBOUR: 'it returns false'. Refute it at one input. -/
def playRefusesWrong : ChangeSpec := { name := "playRefuses", fn := fun _ => fun
  | [d1, d2] => { results := [.lit (.bool false)], args := [d1, d2] }
  | _ => none }
def PlayRefusesWrongFalsely : Prop := playRefusesRow.holds Tryz.pinned (OpenSpec.ofChange playRefusesWrong)

/-- 'lychwaykeep.PlayRight': WHATEVER THE INPUT: true; the input reads as it did. -/
def playRightSpec : ChangeSpec := { name := "playRight", fn := fun _ => fun
  | [d1, d2, d3, d4] => { results := [.lit (.bool true)], args := [d1, d2, d3, d4] }
  | _ => none }
def playRightRow : OpenClaim := { program := "ythplkompdehjlaagreat", sum := "dcdbe2230ac8ce7e6d689d99bb48053ad605d087861f5805e1cb6c1a5e5b34c5", func := "lychway/lychwaykeep.PlayRight", spec := "playRight", inPlace := ["slices.overlaps[lychway/api.Letter]"], unfollowed := true, recurses := true, apart := false }
def PlayRightSaid : Prop := playRightRow.holds Tryz.pinned (OpenSpec.ofChange playRightSpec)

/-- ITS FALSE NEIGHBOUR: 'it returns false'. Refute it at one input. -/
def playRightWrong : ChangeSpec := { name := "playRight", fn := fun _ => fun
  | [d1, d2, d3, d4] => { results := [.lit (.bool false)], args := [d1, d2, d3, d4] }
  | _ => none }
def PlayRightWrongFalsely : Prop := playRightRow.holds Tryz.pinned (OpenSpec.ofChange playRightWrong)

/- THE SECOND FORM. 'bulk': how many values and letters a reading holds, each counted each time it is reached (what is shared counts as often as it is met; a slice's spare places count too). A statement '..UptoSaid' is the law's where the arguments, and the package variables that the reading takes, are together of bulk at most 1048576: NARROWER than '..Said'. Prove '..Said' where nothing that the law and all that it calls make is longer than what came in: it says more and counts as full. Else prove '..UptoSaid'. A law counts once. -/
mutual
def uptoBulk {H : Type} : DataW H → Nat
  | .lit (.string bytes) => bytes.length + 1
  | .lit _ => 1
  | .nil => 1
  | .ptr d => uptoBulk d + 1
  | .slice elems spare => uptoBulkAll elems + uptoBulkAll spare + 1
  | .agg parts => uptoBulkAll parts + 1
  | .iface _ d => uptoBulk d + 1
  | .map entries => uptoBulkEntries entries + 1
  | .held _ => 1
def uptoBulkAll {H : Type} : List (DataW H) → Nat
  | [] => 0
  | d :: r => uptoBulk d + uptoBulkAll r
def uptoBulkEntries {H : Type} : List (Lit × DataW H) → Nat
  | [] => 0
  | x :: r => uptoBulkEntry x + uptoBulkEntries r
def uptoBulkEntry {H : Type} : Lit × DataW H → Nat
  | (.string bytes, d) => bytes.length + uptoBulk d + 1
  | (_, d) => uptoBulk d + 1
 end
def uptoSmall : (H : Type) → List (DataW H) → Bool := fun _ ds => decide (uptoBulkAll ds ≤ 1048576)
def OpenSpec.upto (s : _root_.Go.ChangeSpec) : _root_.Go.OpenSpec := { _root_.Go.OpenSpec.ofChange s with cond := some uptoSmall }

/-- 'lychwaykeep.EngineOwn', WHERE WHAT IT READS IS OF BULK AT MOST 1048576: true; the input reads as it did. -/
def engineOwnUptoRow : OpenClaim := { program := "ythplkompdehjlaagreat", sum := "dcdbe2230ac8ce7e6d689d99bb48053ad605d087861f5805e1cb6c1a5e5b34c5", func := "lychway/lychwaykeep.EngineOwn", spec := "engineOwn", unfollowed := true, recurses := true, apart := false, narrowed := true }
def EngineOwnUptoSaid : Prop := engineOwnUptoRow.holds Tryz.pinned (OpenSpec.upto engineOwnSpec)

/-- 'lychwaykeep.PlayRefuses', WHERE WHAT IT READS IS OF BULK AT MOST 1048576: true; the input reads as it did. -/
def playRefusesUptoRow : OpenClaim := { program := "ythplkompdehjlaagreat", sum := "dcdbe2230ac8ce7e6d689d99bb48053ad605d087861f5805e1cb6c1a5e5b34c5", func := "lychway/lychwaykeep.PlayRefuses", spec := "playRefuses", inPlace := ["slices.overlaps[lychway/api.Letter]"], unfollowed := true, recurses := true, apart := false, narrowed := true }
def PlayRefusesUptoSaid : Prop := playRefusesUptoRow.holds Tryz.pinned (OpenSpec.upto playRefusesSpec)

/-- 'lychwaykeep.PlayRight', WHERE WHAT IT READS IS OF BULK AT MOST 1048576: true; the input reads as it did. -/
def playRightUptoRow : OpenClaim := { program := "ythplkompdehjlaagreat", sum := "dcdbe2230ac8ce7e6d689d99bb48053ad605d087861f5805e1cb6c1a5e5b34c5", func := "lychway/lychwaykeep.PlayRight", spec := "playRight", inPlace := ["slices.overlaps[lychway/api.Letter]"], unfollowed := true, recurses := true, apart := false, narrowed := true }
def PlayRightUptoSaid : Prop := playRightUptoRow.holds Tryz.pinned (OpenSpec.upto playRightSpec)

end Rows
end Go.Proofs.YthplkompdehjlaaGreat
