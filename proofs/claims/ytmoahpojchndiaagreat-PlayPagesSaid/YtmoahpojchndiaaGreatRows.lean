/-
  No cell of these rows narrows 'for every input' (looked for: loops, veiled, ifaces, maps, wideKeys, modest, calm, conditions, laid).
  DERIVED. THE GIVEN ROWS OF THIS SEAT. 10 by the template 'for every input the law returns true; each argument reads behind the call as it read before'; 0 by the template 'total and deterministic' (their statements: YtmoahpojchndiaaGreatTotals.lean).
  GIVEN WITH THE SEED: the statements are not yours to turn. If you find one false, say at which input.
  Laid BY PROGRAM, IN A SANDBOX (cutbox-rows.mjs): the forced cells as the released guide's own fill.sh prints them over the translation 6e4709febd4e913b… (all of the seat's roots in one cut). By AI agents, Wed Nov 11 2026. No macro, syntax, notation, axiom, sorry.
-/
import Derived.Test.YtmoahpojchndiaaGreatChecked
import GoSem.Claim
import GoSem.ClaimJoined
import GoSem.ClaimMapViews
import Derived.JoinedTies
import Derived.KernelRfl
namespace Go.Proofs.YtmoahpojchndiaaGreat
/- THE CELL 'sum', in the pinned program and in every row, IS THE sha256 OF THE DUMP (.gsa) THAT YtmoahpojchndiaaGreatProg.lean LOADS. Nothing in Lean hashes anything: it is a label: what it is worth is what the hold of that sum in a sandbox is worth. -/
noncomputable def Tryz.pinned : Pinned := { name := "ytmoahpojchndiaagreat", sum := "6e4709febd4e913b7afc1e8e4932debe72317a7f311586a1e44cf590ef710ef6", checked := Tryz.checked }
namespace Rows
def none {H : Type} : Left H := { results := [], args := [] }

/-- 'lychwaykeep.EngineLost': WHATEVER THE INPUT: true; the input reads as it did. -/
def engineLostSpec : ChangeSpec := { name := "engineLost", fn := fun _ => fun
  | [d1, d2, d3] => { results := [.lit (.bool true)], args := [d1, d2, d3] }
  | _ => none }
def engineLostRow : OpenClaim := { program := "ytmoahpojchndiaagreat", sum := "6e4709febd4e913b7afc1e8e4932debe72317a7f311586a1e44cf590ef710ef6", func := "lychway/lychwaykeep.EngineLost", spec := "engineLost", unfollowed := true, recurses := true, apart := false }
def EngineLostSaid : Prop := engineLostRow.holds Tryz.pinned (OpenSpec.ofChange engineLostSpec)

/-- ITS FALSE NEIGHBOUR: 'it returns false'. Refute it at one input. -/
def engineLostWrong : ChangeSpec := { name := "engineLost", fn := fun _ => fun
  | [d1, d2, d3] => { results := [.lit (.bool false)], args := [d1, d2, d3] }
  | _ => none }
def EngineLostWrongFalsely : Prop := engineLostRow.holds Tryz.pinned (OpenSpec.ofChange engineLostWrong)

/-- 'lychwaykeep.EngineOwn': WHATEVER THE INPUT: true; the input reads as it did. -/
def engineOwnSpec : ChangeSpec := { name := "engineOwn", fn := fun _ => fun
  | [d1, d2, d3] => { results := [.lit (.bool true)], args := [d1, d2, d3] }
  | _ => none }
def engineOwnRow : OpenClaim := { program := "ytmoahpojchndiaagreat", sum := "6e4709febd4e913b7afc1e8e4932debe72317a7f311586a1e44cf590ef710ef6", func := "lychway/lychwaykeep.EngineOwn", spec := "engineOwn", unfollowed := true, recurses := true, apart := false }
def EngineOwnSaid : Prop := engineOwnRow.holds Tryz.pinned (OpenSpec.ofChange engineOwnSpec)

/-- ITS FALSE NEIGHBOUR: 'it returns false'. Refute it at one input. -/
def engineOwnWrong : ChangeSpec := { name := "engineOwn", fn := fun _ => fun
  | [d1, d2, d3] => { results := [.lit (.bool false)], args := [d1, d2, d3] }
  | _ => none }
def EngineOwnWrongFalsely : Prop := engineOwnRow.holds Tryz.pinned (OpenSpec.ofChange engineOwnWrong)

/-- 'lychwaykeep.EngineCalm': WHATEVER THE INPUT: true; the input reads as it did. -/
def engineCalmSpec : ChangeSpec := { name := "engineCalm", fn := fun _ => fun
  | [d1, d2] => { results := [.lit (.bool true)], args := [d1, d2] }
  | _ => none }
def engineCalmRow : OpenClaim := { program := "ytmoahpojchndiaagreat", sum := "6e4709febd4e913b7afc1e8e4932debe72317a7f311586a1e44cf590ef710ef6", func := "lychway/lychwaykeep.EngineCalm", spec := "engineCalm", unfollowed := true, recurses := true, apart := false }
def EngineCalmSaid : Prop := engineCalmRow.holds Tryz.pinned (OpenSpec.ofChange engineCalmSpec)

/-- ITS FALSE NEIGHBOUR: 'it returns false'. Refute it at one input. -/
def engineCalmWrong : ChangeSpec := { name := "engineCalm", fn := fun _ => fun
  | [d1, d2] => { results := [.lit (.bool false)], args := [d1, d2] }
  | _ => none }
def EngineCalmWrongFalsely : Prop := engineCalmRow.holds Tryz.pinned (OpenSpec.ofChange engineCalmWrong)

/-- 'lychwaykeep.EngineQuiet': WHATEVER THE INPUT: true; the input reads as it did. -/
def engineQuietSpec : ChangeSpec := { name := "engineQuiet", fn := fun _ => fun
  | [d1, d2, d3] => { results := [.lit (.bool true)], args := [d1, d2, d3] }
  | _ => none }
def engineQuietRow : OpenClaim := { program := "ytmoahpojchndiaagreat", sum := "6e4709febd4e913b7afc1e8e4932debe72317a7f311586a1e44cf590ef710ef6", func := "lychway/lychwaykeep.EngineQuiet", spec := "engineQuiet", unfollowed := true, recurses := true, apart := false }
def EngineQuietSaid : Prop := engineQuietRow.holds Tryz.pinned (OpenSpec.ofChange engineQuietSpec)

/-- ITS FALSE NEIGHBOUR: 'it returns false'. Refute it at one input. -/
def engineQuietWrong : ChangeSpec := { name := "engineQuiet", fn := fun _ => fun
  | [d1, d2, d3] => { results := [.lit (.bool false)], args := [d1, d2, d3] }
  | _ => none }
def EngineQuietWrongFalsely : Prop := engineQuietRow.holds Tryz.pinned (OpenSpec.ofChange engineQuietWrong)

/-- 'lychwaykeep.EngineAsks': WHATEVER THE INPUT: true; the input reads as it did. -/
def engineAsksSpec : ChangeSpec := { name := "engineAsks", fn := fun _ => fun
  | [d1, d2, d3, d4] => { results := [.lit (.bool true)], args := [d1, d2, d3, d4] }
  | _ => none }
def engineAsksRow : OpenClaim := { program := "ytmoahpojchndiaagreat", sum := "6e4709febd4e913b7afc1e8e4932debe72317a7f311586a1e44cf590ef710ef6", func := "lychway/lychwaykeep.EngineAsks", spec := "engineAsks", unfollowed := true, recurses := true, apart := false }
def EngineAsksSaid : Prop := engineAsksRow.holds Tryz.pinned (OpenSpec.ofChange engineAsksSpec)

/-- ITS FALSE NEIGHBOUR: 'it returns false'. Refute it at one input. -/
def engineAsksWrong : ChangeSpec := { name := "engineAsks", fn := fun _ => fun
  | [d1, d2, d3, d4] => { results := [.lit (.bool false)], args := [d1, d2, d3, d4] }
  | _ => none }
def EngineAsksWrongFalsely : Prop := engineAsksRow.holds Tryz.pinned (OpenSpec.ofChange engineAsksWrong)

/-- 'lychwaykeep.EngineSafe': WHATEVER THE INPUT: true; the input reads as it did. -/
def engineSafeSpec : ChangeSpec := { name := "engineSafe", fn := fun _ => fun
  | [d1, d2, d3, d4] => { results := [.lit (.bool true)], args := [d1, d2, d3, d4] }
  | _ => none }
def engineSafeRow : OpenClaim := { program := "ytmoahpojchndiaagreat", sum := "6e4709febd4e913b7afc1e8e4932debe72317a7f311586a1e44cf590ef710ef6", func := "lychway/lychwaykeep.EngineSafe", spec := "engineSafe", unfollowed := true, recurses := true, apart := false }
def EngineSafeSaid : Prop := engineSafeRow.holds Tryz.pinned (OpenSpec.ofChange engineSafeSpec)

/-- ITS FALSE NEIGHBOUR: 'it returns false'. Refute it at one input. -/
def engineSafeWrong : ChangeSpec := { name := "engineSafe", fn := fun _ => fun
  | [d1, d2, d3, d4] => { results := [.lit (.bool false)], args := [d1, d2, d3, d4] }
  | _ => none }
def EngineSafeWrongFalsely : Prop := engineSafeRow.holds Tryz.pinned (OpenSpec.ofChange engineSafeWrong)

/-- 'lychwaykeep.PlayFront': WHATEVER THE INPUT: true; the input reads as it did. -/
def playFrontSpec : ChangeSpec := { name := "playFront", fn := fun _ => fun
  | [d1, d2, d3] => { results := [.lit (.bool true)], args := [d1, d2, d3] }
  | _ => none }
def playFrontRow : OpenClaim := { program := "ytmoahpojchndiaagreat", sum := "6e4709febd4e913b7afc1e8e4932debe72317a7f311586a1e44cf590ef710ef6", func := "lychway/lychwaykeep.PlayFront", spec := "playFront", inPlace := ["slices.overlaps[lychway/api.Letter]"], unfollowed := true, recurses := true, apart := false }
def PlayFrontSaid : Prop := playFrontRow.holds Tryz.pinned (OpenSpec.ofChange playFrontSpec)

/-- ITS FALSE NEIGHBOUR: 'it returns false'. Refute it at one input. -/
def playFrontWrong : ChangeSpec := { name := "playFront", fn := fun _ => fun
  | [d1, d2, d3] => { results := [.lit (.bool false)], args := [d1, d2, d3] }
  | _ => none }
def PlayFrontWrongFalsely : Prop := playFrontRow.holds Tryz.pinned (OpenSpec.ofChange playFrontWrong)

/-- 'lychwaykeep.PlayPages': WHATEVER THE INPUT: true; the input reads as it did. -/
def playPagesSpec : ChangeSpec := { name := "playPages", fn := fun _ => fun
  | [d1, d2] => { results := [.lit (.bool true)], args := [d1, d2] }
  | _ => none }
def playPagesRow : OpenClaim := { program := "ytmoahpojchndiaagreat", sum := "6e4709febd4e913b7afc1e8e4932debe72317a7f311586a1e44cf590ef710ef6", func := "lychway/lychwaykeep.PlayPages", spec := "playPages", inPlace := ["slices.overlaps[lychway/api.Letter]"], unfollowed := true, recurses := true, apart := false }
def PlayPagesSaid : Prop := playPagesRow.holds Tryz.pinned (OpenSpec.ofChange playPagesSpec)

/-- ITS FALSE NEIGHBOUR: 'it returns false'. Refute it at one input. -/
def playPagesWrong : ChangeSpec := { name := "playPages", fn := fun _ => fun
  | [d1, d2] => { results := [.lit (.bool false)], args := [d1, d2] }
  | _ => none }
def PlayPagesWrongFalsely : Prop := playPagesRow.holds Tryz.pinned (OpenSpec.ofChange playPagesWrong)

/-- 'lychwaykeep.PlayRefuses': WHATEVER THE INPUT: true; the input reads as it did. -/
def playRefusesSpec : ChangeSpec := { name := "playRefuses", fn := fun _ => fun
  | [d1, d2] => { results := [.lit (.bool true)], args := [d1, d2] }
  | _ => none }
def playRefusesRow : OpenClaim := { program := "ytmoahpojchndiaagreat", sum := "6e4709febd4e913b7afc1e8e4932debe72317a7f311586a1e44cf590ef710ef6", func := "lychway/lychwaykeep.PlayRefuses", spec := "playRefuses", inPlace := ["slices.overlaps[lychway/api.Letter]"], unfollowed := true, recurses := true, apart := false }
def PlayRefusesSaid : Prop := playRefusesRow.holds Tryz.pinned (OpenSpec.ofChange playRefusesSpec)

/-- ITS FALSE NEIGHBOUR: 'it returns false'. Refute it at one input. -/
def playRefusesWrong : ChangeSpec := { name := "playRefuses", fn := fun _ => fun
  | [d1, d2] => { results := [.lit (.bool false)], args := [d1, d2] }
  | _ => none }
def PlayRefusesWrongFalsely : Prop := playRefusesRow.holds Tryz.pinned (OpenSpec.ofChange playRefusesWrong)

/-- 'lychwaykeep.PlayRight': WHATEVER THE INPUT: true; the input reads as it did. -/
def playRightSpec : ChangeSpec := { name := "playRight", fn := fun _ => fun
  | [d1, d2, d3, d4] => { results := [.lit (.bool true)], args := [d1, d2, d3, d4] }
  | _ => none }
def playRightRow : OpenClaim := { program := "ytmoahpojchndiaagreat", sum := "6e4709febd4e913b7afc1e8e4932debe72317a7f311586a1e44cf590ef710ef6", func := "lychway/lychwaykeep.PlayRight", spec := "playRight", inPlace := ["slices.overlaps[lychway/api.Letter]"], unfollowed := true, recurses := true, apart := false }
def PlayRightSaid : Prop := playRightRow.holds Tryz.pinned (OpenSpec.ofChange playRightSpec)

/-- ITS FALSE NEIGHBOUR: 'it returns false'. Refute it at one input. -/
def playRightWrong : ChangeSpec := { name := "playRight", fn := fun _ => fun
  | [d1, d2, d3, d4] => { results := [.lit (.bool false)], args := [d1, d2, d3, d4] }
  | _ => none }
def PlayRightWrongFalsely : Prop := playRightRow.holds Tryz.pinned (OpenSpec.ofChange playRightWrong)

/- THE SECOND FORM. 'bulk': how many values and letters a reading holds, each counted each time it is reached (what is shared counts as often as it is met; a slice's spare places count too). A statement '..UptoSaid' is the law's where the arguments, and the package variables that the reading takes, are together of bulk at most 1048576: NARROWER than '..Said'. Prove '..Said' where nothing that the law and all that it calls make is longer than what came in: it says more and counts as full. Else prove '..UptoSaid'. A law counts once. -/
mutual
def uptoBulk {H : Type} : DataW H → Nat
  | .lit (.string bytes) => bytes.length + 1
  | .lit _ => 1
  | .nil => 1
  | .ptr d => uptoBulk d + 1
  | .slice elems spare => uptoBulkAll elems + uptoBulkAll spare + 1
  | .agg parts => uptoBulkAll parts + 1
  | .iface _ d => uptoBulk d + 1
  | .map entries => uptoBulkEntries entries + 1
  | .held _ => 1
def uptoBulkAll {H : Type} : List (DataW H) → Nat
  | [] => 0
  | d :: r => uptoBulk d + uptoBulkAll r
def uptoBulkEntries {H : Type} : List (Lit × DataW H) → Nat
  | [] => 0
  | x :: r => uptoBulkEntry x + uptoBulkEntries r
def uptoBulkEntry {H : Type} : Lit × DataW H → Nat
  | (.string bytes, d) => bytes.length + uptoBulk d + 1
  | (_, d) => uptoBulk d + 1
 end
def uptoSmall : (H : Type) → List (DataW H) → Bool := fun _ ds => decide (uptoBulkAll ds ≤ 1048576)
def OpenSpec.upto (s : _root_.Go.ChangeSpec) : _root_.Go.OpenSpec := { _root_.Go.OpenSpec.ofChange s with cond := some uptoSmall }

/-- 'lychwaykeep.EngineLost', WHERE WHAT IT READS IS OF BULK AT MOST 1048576: true; the input reads as it did. -/
def engineLostUptoRow : OpenClaim := { program := "ytmoahpojchndiaagreat", sum := "6e4709febd4e913b7afc1e8e4932debe72317a7f311586a1e44cf590ef710ef6", func := "lychway/lychwaykeep.EngineLost", spec := "engineLost", unfollowed := true, recurses := true, apart := false, narrowed := true }
def EngineLostUptoSaid : Prop := engineLostUptoRow.holds Tryz.pinned (OpenSpec.upto engineLostSpec)

/-- 'lychwaykeep.EngineOwn', WHERE WHAT IT READS IS OF BULK AT MOST 1048576: true; the input reads as it did. -/
def engineOwnUptoRow : OpenClaim := { program := "ytmoahpojchndiaagreat", sum := "6e4709febd4e913b7afc1e8e4932debe72317a7f311586a1e44cf590ef710ef6", func := "lychway/lychwaykeep.EngineOwn", spec := "engineOwn", unfollowed := true, recurses := true, apart := false, narrowed := true }
def EngineOwnUptoSaid : Prop := engineOwnUptoRow.holds Tryz.pinned (OpenSpec.upto engineOwnSpec)

/-- 'lychwaykeep.EngineCalm', WHERE WHAT IT READS IS OF BULK AT MOST 1048576: true; the input reads as it did. -/
def engineCalmUptoRow : OpenClaim := { program := "ytmoahpojchndiaagreat", sum := "6e4709febd4e913b7afc1e8e4932debe72317a7f311586a1e44cf590ef710ef6", func := "lychway/lychwaykeep.EngineCalm", spec := "engineCalm", unfollowed := true, recurses := true, apart := false, narrowed := true }
def EngineCalmUptoSaid : Prop := engineCalmUptoRow.holds Tryz.pinned (OpenSpec.upto engineCalmSpec)

/-- 'lychwaykeep.EngineQuiet', WHERE WHAT IT READS IS OF BULK AT MOST 1048576: true; the input reads as it did. -/
def engineQuietUptoRow : OpenClaim := { program := "ytmoahpojchndiaagreat", sum := "6e4709febd4e913b7afc1e8e4932debe72317a7f311586a1e44cf590ef710ef6", func := "lychway/lychwaykeep.EngineQuiet", spec := "engineQuiet", unfollowed := true, recurses := true, apart := false, narrowed := true }
def EngineQuietUptoSaid : Prop := engineQuietUptoRow.holds Tryz.pinned (OpenSpec.upto engineQuietSpec)

/-- 'lychwaykeep.EngineAsks', WHERE WHAT IT READS IS OF BULK AT MOST 1048576: true; the input reads as it did. -/
def engineAsksUptoRow : OpenClaim := { program := "ytmoahpojchndiaagreat", sum := "6e4709febd4e913b7afc1e8e4932debe72317a7f311586a1e44cf590ef710ef6", func := "lychway/lychwaykeep.EngineAsks", spec := "engineAsks", unfollowed := true, recurses := true, apart := false, narrowed := true }
def EngineAsksUptoSaid : Prop := engineAsksUptoRow.holds Tryz.pinned (OpenSpec.upto engineAsksSpec)

/-- 'lychwaykeep.EngineSafe', WHERE WHAT IT READS IS OF BULK AT MOST 1048576: true; the input reads as it did. -/
def engineSafeUptoRow : OpenClaim := { program := "ytmoahpojchndiaagreat", sum := "6e4709febd4e913b7afc1e8e4932debe72317a7f311586a1e44cf590ef710ef6", func := "lychway/lychwaykeep.EngineSafe", spec := "engineSafe", unfollowed := true, recurses := true, apart := false, narrowed := true }
def EngineSafeUptoSaid : Prop := engineSafeUptoRow.holds Tryz.pinned (OpenSpec.upto engineSafeSpec)

/-- 'lychwaykeep.PlayFront', WHERE WHAT IT READS IS OF BULK AT MOST 1048576: true; the input reads as it did. -/
def playFrontUptoRow : OpenClaim := { program := "ytmoahpojchndiaagreat", sum := "6e4709febd4e913b7afc1e8e4932debe72317a7f311586a1e44cf590ef710ef6", func := "lychway/lychwaykeep.PlayFront", spec := "playFront", inPlace := ["slices.overlaps[lychway/api.Letter]"], unfollowed := true, recurses := true, apart := false, narrowed := true }
def PlayFrontUptoSaid : Prop := playFrontUptoRow.holds Tryz.pinned (OpenSpec.upto playFrontSpec)

/-- 'lychwaykeep.PlayPages', WHERE WHAT IT READS IS OF BULK AT MOST 1048576: true; the input reads as it did. -/
def playPagesUptoRow : OpenClaim := { program := "ytmoahpojchndiaagreat", sum := "6e4709febd4e913b7afc1e8e4932debe72317a7f311586a1e44cf590ef710ef6", func := "lychway/lychwaykeep.PlayPages", spec := "playPages", inPlace := ["slices.overlaps[lychway/api.Letter]"], unfollowed := true, recurses := true, apart := false, narrowed := true }
def PlayPagesUptoSaid : Prop := playPagesUptoRow.holds Tryz.pinned (OpenSpec.upto playPagesSpec)

/-- 'lychwaykeep.PlayRefuses', WHERE WHAT IT READS IS OF BULK AT MOST 1048576: true; the input reads as it did. -/
def playRefusesUptoRow : OpenClaim := { program := "ytmoahpojchndiaagreat", sum := "6e4709febd4e913b7afc1e8e4932debe72317a7f311586a1e44cf590ef710ef6", func := "lychway/lychwaykeep.PlayRefuses", spec := "playRefuses", inPlace := ["slices.overlaps[lychway/api.Letter]"], unfollowed := true, recurses := true, apart := false, narrowed := true }
def PlayRefusesUptoSaid : Prop := playRefusesUptoRow.holds Tryz.pinned (OpenSpec.upto playRefusesSpec)

/-- 'lychwaykeep.PlayRight', WHERE WHAT IT READS IS OF BULK AT MOST 1048576: true; the input reads as it did. -/
def playRightUptoRow : OpenClaim := { program := "ytmoahpojchndiaagreat", sum := "6e4709febd4e913b7afc1e8e4932debe72317a7f311586a1e44cf590ef710ef6", func := "lychway/lychwaykeep.PlayRight", spec := "playRight", inPlace := ["slices.overlaps[lychway/api.Letter]"], unfollowed := true, recurses := true, apart := false, narrowed := true }
def PlayRightUptoSaid : Prop := playRightUptoRow.holds Tryz.pinned (OpenSpec.upto playRightSpec)

end Rows
end Go.Proofs.YtmoahpojchndiaaGreat
