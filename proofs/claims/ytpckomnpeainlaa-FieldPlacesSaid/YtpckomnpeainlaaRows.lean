/-
  No cell of these rows narrows 'for every input' (looked for: loops, veiled, ifaces, maps, wideKeys, modest, calm, conditions, laid).
  DERIVED. THE GIVEN ROWS OF THIS SEAT. 12 by the template 'for every input the law returns true; each argument reads behind the call as it read before'; 0 by the template 'total and deterministic' (their statements: YtpckomnpeainlaaTotals.lean).
  GIVEN WITH THE SEED: the statements are not yours to turn. If you find one false, say at which input.
  Laid BY PROGRAM, IN A SANDBOX (cutbox-rows.mjs): the forced cells as the released guide's own fill.sh prints them over the translation 7a3db6c26df9da6c… (all of the seat's roots in one cut). By AI agents, Wed Nov 11 2026. No macro, syntax, notation, axiom, sorry.
-/
import Derived.Test.YtpckomnpeainlaaChecked
import GoSem.Claim
import GoSem.ClaimJoined
import GoSem.ClaimMapViews
import Derived.JoinedTies
import Derived.KernelRfl
namespace Go.Proofs.Ytpckomnpeainlaa
/- THE CELL 'sum', in the pinned program and in every row, IS THE sha256 OF THE DUMP (.gsa) THAT YtpckomnpeainlaaProg.lean LOADS. Nothing in Lean hashes anything: it is a label: what it is worth is what the hold of that sum in a sandbox is worth. -/
noncomputable def Try.pinned : Pinned := { name := "ytpckomnpeainlaa", sum := "7a3db6c26df9da6c6d34583c3402d0b45155752f4d1372f3d65562836e981a71", checked := Try.checked }
namespace Rows
def none {H : Type} : Left H := { results := [], args := [] }

/-- 'lychwaykeep.FieldPlaces': WHATEVER THE INPUT: true; the input reads as it did. -/
def fieldPlacesSpec : ChangeSpec := { name := "fieldPlaces", fn := fun _ => fun
  | [d] => { results := [.lit (.bool true)], args := [d] }
  | _ => none }
def fieldPlacesRow : OpenClaim := { program := "ytpckomnpeainlaa", sum := "7a3db6c26df9da6c6d34583c3402d0b45155752f4d1372f3d65562836e981a71", func := "lychway/lychwaykeep.FieldPlaces", spec := "fieldPlaces", unfollowed := true, recurses := true, apart := false }
def FieldPlacesSaid : Prop := fieldPlacesRow.holds Try.pinned (OpenSpec.ofChange fieldPlacesSpec)

/-- ITS FALSE NEIGHBOUR: 'it returns false'. Refute it at one input. -/
def fieldPlacesWrong : ChangeSpec := { name := "fieldPlaces", fn := fun _ => fun
  | [d] => { results := [.lit (.bool false)], args := [d] }
  | _ => none }
def FieldPlacesWrongFalsely : Prop := fieldPlacesRow.holds Try.pinned (OpenSpec.ofChange fieldPlacesWrong)

/-- 'lychwaykeep.NumBack': WHATEVER THE INPUT: true; the input reads as it did. -/
def numBackSpec : ChangeSpec := { name := "numBack", fn := fun _ => fun
  | [d1, d2] => { results := [.lit (.bool true)], args := [d1, d2] }
  | _ => none }
def numBackRow : OpenClaim := { program := "ytpckomnpeainlaa", sum := "7a3db6c26df9da6c6d34583c3402d0b45155752f4d1372f3d65562836e981a71", func := "lychway/lychwaykeep.NumBack", spec := "numBack", unfollowed := true, recurses := true, apart := false }
def NumBackSaid : Prop := numBackRow.holds Try.pinned (OpenSpec.ofChange numBackSpec)

/-- ITS FALSE NEIGHBOUR: 'it returns false'. Refute it at one input. -/
def numBackWrong : ChangeSpec := { name := "numBack", fn := fun _ => fun
  | [d1, d2] => { results := [.lit (.bool false)], args := [d1, d2] }
  | _ => none }
def NumBackWrongFalsely : Prop := numBackRow.holds Try.pinned (OpenSpec.ofChange numBackWrong)

/-- 'lychwaykeep.NumGroups': WHATEVER THE INPUT: true; the input reads as it did. -/
def numGroupsSpec : ChangeSpec := { name := "numGroups", fn := fun _ => fun
  | [d1, d2, d3] => { results := [.lit (.bool true)], args := [d1, d2, d3] }
  | _ => none }
def numGroupsRow : OpenClaim := { program := "ytpckomnpeainlaa", sum := "7a3db6c26df9da6c6d34583c3402d0b45155752f4d1372f3d65562836e981a71", func := "lychway/lychwaykeep.NumGroups", spec := "numGroups", unfollowed := true, recurses := true, apart := false }
def NumGroupsSaid : Prop := numGroupsRow.holds Try.pinned (OpenSpec.ofChange numGroupsSpec)

/-- ITS FALSE NEIGHBOUR: 'it returns false'. Refute it at one input. -/
def numGroupsWrong : ChangeSpec := { name := "numGroups", fn := fun _ => fun
  | [d1, d2, d3] => { results := [.lit (.bool false)], args := [d1, d2, d3] }
  | _ => none }
def NumGroupsWrongFalsely : Prop := numGroupsRow.holds Try.pinned (OpenSpec.ofChange numGroupsWrong)

/-- 'lychwaykeep.NumShares': WHATEVER THE INPUT: true; the input reads as it did. -/
def numSharesSpec : ChangeSpec := { name := "numShares", fn := fun _ => fun
  | [d1, d2, d3] => { results := [.lit (.bool true)], args := [d1, d2, d3] }
  | _ => none }
def numSharesRow : OpenClaim := { program := "ytpckomnpeainlaa", sum := "7a3db6c26df9da6c6d34583c3402d0b45155752f4d1372f3d65562836e981a71", func := "lychway/lychwaykeep.NumShares", spec := "numShares", unfollowed := true, recurses := true, apart := false }
def NumSharesSaid : Prop := numSharesRow.holds Try.pinned (OpenSpec.ofChange numSharesSpec)

/-- ITS FALSE NEIGHBOUR: 'it returns false'. Refute it at one input. -/
def numSharesWrong : ChangeSpec := { name := "numShares", fn := fun _ => fun
  | [d1, d2, d3] => { results := [.lit (.bool false)], args := [d1, d2, d3] }
  | _ => none }
def NumSharesWrongFalsely : Prop := numSharesRow.holds Try.pinned (OpenSpec.ofChange numSharesWrong)

/-- 'lychwaykeep.NumEuclid': WHATEVER THE INPUT: true; the input reads as it did. -/
def numEuclidSpec : ChangeSpec := { name := "numEuclid", fn := fun _ => fun
  | [d1, d2] => { results := [.lit (.bool true)], args := [d1, d2] }
  | _ => none }
def numEuclidRow : OpenClaim := { program := "ytpckomnpeainlaa", sum := "7a3db6c26df9da6c6d34583c3402d0b45155752f4d1372f3d65562836e981a71", func := "lychway/lychwaykeep.NumEuclid", spec := "numEuclid", unfollowed := true, recurses := true, apart := false }
def NumEuclidSaid : Prop := numEuclidRow.holds Try.pinned (OpenSpec.ofChange numEuclidSpec)

/-- ITS FALSE NEIGHBOUR: 'it returns false'. Refute it at one input. -/
def numEuclidWrong : ChangeSpec := { name := "numEuclid", fn := fun _ => fun
  | [d1, d2] => { results := [.lit (.bool false)], args := [d1, d2] }
  | _ => none }
def NumEuclidWrongFalsely : Prop := numEuclidRow.holds Try.pinned (OpenSpec.ofChange numEuclidWrong)

/-- 'lychwaykeep.GapRises': WHATEVER THE INPUT: true; the input reads as it did. -/
def gapRisesSpec : ChangeSpec := { name := "gapRises", fn := fun _ => fun
  | [d1, d2, d3] => { results := [.lit (.bool true)], args := [d1, d2, d3] }
  | _ => none }
def gapRisesRow : OpenClaim := { program := "ytpckomnpeainlaa", sum := "7a3db6c26df9da6c6d34583c3402d0b45155752f4d1372f3d65562836e981a71", func := "lychway/lychwaykeep.GapRises", spec := "gapRises", apart := false }
def GapRisesSaid : Prop := gapRisesRow.holds Try.pinned (OpenSpec.ofChange gapRisesSpec)

/-- ITS FALSE NEIGHBOUR: 'it returns false'. Refute it at one input. -/
def gapRisesWrong : ChangeSpec := { name := "gapRises", fn := fun _ => fun
  | [d1, d2, d3] => { results := [.lit (.bool false)], args := [d1, d2, d3] }
  | _ => none }
def GapRisesWrongFalsely : Prop := gapRisesRow.holds Try.pinned (OpenSpec.ofChange gapRisesWrong)

/-- 'lychwaykeep.ValueOrderly': WHATEVER THE INPUT: true; the input reads as it did. -/
def valueOrderlySpec : ChangeSpec := { name := "valueOrderly", fn := fun _ => fun
  | [d1, d2, d3, d4] => { results := [.lit (.bool true)], args := [d1, d2, d3, d4] }
  | _ => none }
def valueOrderlyRow : OpenClaim := { program := "ytpckomnpeainlaa", sum := "7a3db6c26df9da6c6d34583c3402d0b45155752f4d1372f3d65562836e981a71", func := "lychway/lychwaykeep.ValueOrderly", spec := "valueOrderly", apart := false }
def ValueOrderlySaid : Prop := valueOrderlyRow.holds Try.pinned (OpenSpec.ofChange valueOrderlySpec)

/-- ITS FALSE NEIGHBOUR: 'it returns false'. Refute it at one input. -/
def valueOrderlyWrong : ChangeSpec := { name := "valueOrderly", fn := fun _ => fun
  | [d1, d2, d3, d4] => { results := [.lit (.bool false)], args := [d1, d2, d3, d4] }
  | _ => none }
def ValueOrderlyWrongFalsely : Prop := valueOrderlyRow.holds Try.pinned (OpenSpec.ofChange valueOrderlyWrong)

/-- 'lychwaykeep.CallStale': WHATEVER THE INPUT: true; the input reads as it did. -/
def callStaleSpec : ChangeSpec := { name := "callStale", fn := fun _ => fun
  | [d1, d2, d3, d4, d5] => { results := [.lit (.bool true)], args := [d1, d2, d3, d4, d5] }
  | _ => none }
def callStaleRow : OpenClaim := { program := "ytpckomnpeainlaa", sum := "7a3db6c26df9da6c6d34583c3402d0b45155752f4d1372f3d65562836e981a71", func := "lychway/lychwaykeep.CallStale", spec := "callStale", apart := false }
def CallStaleSaid : Prop := callStaleRow.holds Try.pinned (OpenSpec.ofChange callStaleSpec)

/-- ITS FALSE NEIGHBOUR: 'it returns false'. Refute it at one input. -/
def callStaleWrong : ChangeSpec := { name := "callStale", fn := fun _ => fun
  | [d1, d2, d3, d4, d5] => { results := [.lit (.bool false)], args := [d1, d2, d3, d4, d5] }
  | _ => none }
def CallStaleWrongFalsely : Prop := callStaleRow.holds Try.pinned (OpenSpec.ofChange callStaleWrong)

/-- 'lychwaykeep.CallStays': WHATEVER THE INPUT: true; the input reads as it did. -/
def callStaysSpec : ChangeSpec := { name := "callStays", fn := fun _ => fun
  | [d1, d2, d3, d4] => { results := [.lit (.bool true)], args := [d1, d2, d3, d4] }
  | _ => none }
def callStaysRow : OpenClaim := { program := "ytpckomnpeainlaa", sum := "7a3db6c26df9da6c6d34583c3402d0b45155752f4d1372f3d65562836e981a71", func := "lychway/lychwaykeep.CallStays", spec := "callStays", apart := false }
def CallStaysSaid : Prop := callStaysRow.holds Try.pinned (OpenSpec.ofChange callStaysSpec)

/-- ITS FALSE NEIGHBOUR: 'it returns false'. Refute it at one input. -/
def callStaysWrong : ChangeSpec := { name := "callStays", fn := fun _ => fun
  | [d1, d2, d3, d4] => { results := [.lit (.bool false)], args := [d1, d2, d3, d4] }
  | _ => none }
def CallStaysWrongFalsely : Prop := callStaysRow.holds Try.pinned (OpenSpec.ofChange callStaysWrong)

/-- 'lychwaykeep.CallEnds': WHATEVER THE INPUT: true; the input reads as it did. -/
def callEndsSpec : ChangeSpec := { name := "callEnds", fn := fun _ => fun
  | [d1, d2, d3, d4, d5] => { results := [.lit (.bool true)], args := [d1, d2, d3, d4, d5] }
  | _ => none }
def callEndsRow : OpenClaim := { program := "ytpckomnpeainlaa", sum := "7a3db6c26df9da6c6d34583c3402d0b45155752f4d1372f3d65562836e981a71", func := "lychway/lychwaykeep.CallEnds", spec := "callEnds", apart := false }
def CallEndsSaid : Prop := callEndsRow.holds Try.pinned (OpenSpec.ofChange callEndsSpec)

/-- ITS FALSE NEIGHBOUR: 'it returns false'. Refute it at one input. -/
def callEndsWrong : ChangeSpec := { name := "callEnds", fn := fun _ => fun
  | [d1, d2, d3, d4, d5] => { results := [.lit (.bool false)], args := [d1, d2, d3, d4, d5] }
  | _ => none }
def CallEndsWrongFalsely : Prop := callEndsRow.holds Try.pinned (OpenSpec.ofChange callEndsWrong)

/-- 'lychwaykeep.ClientFirst': WHATEVER THE INPUT: true; the input reads as it did. -/
def clientFirstSpec : ChangeSpec := { name := "clientFirst", fn := fun _ => fun
  | [d1, d2] => { results := [.lit (.bool true)], args := [d1, d2] }
  | _ => none }
def clientFirstRow : OpenClaim := { program := "ytpckomnpeainlaa", sum := "7a3db6c26df9da6c6d34583c3402d0b45155752f4d1372f3d65562836e981a71", func := "lychway/lychwaykeep.ClientFirst", spec := "clientFirst", apart := false }
def ClientFirstSaid : Prop := clientFirstRow.holds Try.pinned (OpenSpec.ofChange clientFirstSpec)

/-- ITS FALSE NEIGHBOUR: 'it returns false'. Refute it at one input. -/
def clientFirstWrong : ChangeSpec := { name := "clientFirst", fn := fun _ => fun
  | [d1, d2] => { results := [.lit (.bool false)], args := [d1, d2] }
  | _ => none }
def ClientFirstWrongFalsely : Prop := clientFirstRow.holds Try.pinned (OpenSpec.ofChange clientFirstWrong)

/-- 'lychwaykeep.ClientKeeps': WHATEVER THE INPUT: true; the input reads as it did. -/
def clientKeepsSpec : ChangeSpec := { name := "clientKeeps", fn := fun _ => fun
  | [d1, d2, d3, d4] => { results := [.lit (.bool true)], args := [d1, d2, d3, d4] }
  | _ => none }
def clientKeepsRow : OpenClaim := { program := "ytpckomnpeainlaa", sum := "7a3db6c26df9da6c6d34583c3402d0b45155752f4d1372f3d65562836e981a71", func := "lychway/lychwaykeep.ClientKeeps", spec := "clientKeeps", apart := false }
def ClientKeepsSaid : Prop := clientKeepsRow.holds Try.pinned (OpenSpec.ofChange clientKeepsSpec)

/-- ITS FALSE NEIGHBOUR: 'it returns false'. Refute it at one input. -/
def clientKeepsWrong : ChangeSpec := { name := "clientKeeps", fn := fun _ => fun
  | [d1, d2, d3, d4] => { results := [.lit (.bool false)], args := [d1, d2, d3, d4] }
  | _ => none }
def ClientKeepsWrongFalsely : Prop := clientKeepsRow.holds Try.pinned (OpenSpec.ofChange clientKeepsWrong)

/- THE SECOND FORM. 'bulk': how many values and letters a reading holds, each counted each time it is reached (what is shared counts as often as it is met; a slice's spare places count too). A statement '..UptoSaid' is the law's where the arguments, and the package variables that the reading takes, are together of bulk at most 1048576: NARROWER than '..Said'. Prove '..Said' where nothing that the law and all that it calls make is longer than what came in: it says more and counts as full. Else prove '..UptoSaid'. A law counts once. -/
mutual
def uptoBulk {H : Type} : DataW H → Nat
  | .lit (.string bytes) => bytes.length + 1
  | .lit _ => 1
  | .nil => 1
  | .ptr d => uptoBulk d + 1
  | .slice elems spare => uptoBulkAll elems + uptoBulkAll spare + 1
  | .agg parts => uptoBulkAll parts + 1
  | .iface _ d => uptoBulk d + 1
  | .map entries => uptoBulkEntries entries + 1
  | .held _ => 1
def uptoBulkAll {H : Type} : List (DataW H) → Nat
  | [] => 0
  | d :: r => uptoBulk d + uptoBulkAll r
def uptoBulkEntries {H : Type} : List (Lit × DataW H) → Nat
  | [] => 0
  | x :: r => uptoBulkEntry x + uptoBulkEntries r
def uptoBulkEntry {H : Type} : Lit × DataW H → Nat
  | (.string bytes, d) => bytes.length + uptoBulk d + 1
  | (_, d) => uptoBulk d + 1
 end
def uptoSmall : (H : Type) → List (DataW H) → Bool := fun _ ds => decide (uptoBulkAll ds ≤ 1048576)
def OpenSpec.upto (s : _root_.Go.ChangeSpec) : _root_.Go.OpenSpec := { _root_.Go.OpenSpec.ofChange s with cond := some uptoSmall }

/-- 'lychwaykeep.FieldPlaces', WHERE WHAT IT READS IS OF BULK AT MOST 1048576: true; the input reads as it did. -/
def fieldPlacesUptoRow : OpenClaim := { program := "ytpckomnpeainlaa", sum := "7a3db6c26df9da6c6d34583c3402d0b45155752f4d1372f3d65562836e981a71", func := "lychway/lychwaykeep.FieldPlaces", spec := "fieldPlaces", unfollowed := true, recurses := true, apart := false, narrowed := true }
def FieldPlacesUptoSaid : Prop := fieldPlacesUptoRow.holds Try.pinned (OpenSpec.upto fieldPlacesSpec)

/-- 'lychwaykeep.NumBack', WHERE WHAT IT READS IS OF BULK AT MOST 1048576: true; the input reads as it did. -/
def numBackUptoRow : OpenClaim := { program := "ytpckomnpeainlaa", sum := "7a3db6c26df9da6c6d34583c3402d0b45155752f4d1372f3d65562836e981a71", func := "lychway/lychwaykeep.NumBack", spec := "numBack", unfollowed := true, recurses := true, apart := false, narrowed := true }
def NumBackUptoSaid : Prop := numBackUptoRow.holds Try.pinned (OpenSpec.upto numBackSpec)

/-- 'lychwaykeep.NumGroups', WHERE WHAT IT READS IS OF BULK AT MOST 1048576: true; the input reads as it did. -/
def numGroupsUptoRow : OpenClaim := { program := "ytpckomnpeainlaa", sum := "7a3db6c26df9da6c6d34583c3402d0b45155752f4d1372f3d65562836e981a71", func := "lychway/lychwaykeep.NumGroups", spec := "numGroups", unfollowed := true, recurses := true, apart := false, narrowed := true }
def NumGroupsUptoSaid : Prop := numGroupsUptoRow.holds Try.pinned (OpenSpec.upto numGroupsSpec)

/-- 'lychwaykeep.NumShares', WHERE WHAT IT READS IS OF BULK AT MOST 1048576: true; the input reads as it did. -/
def numSharesUptoRow : OpenClaim := { program := "ytpckomnpeainlaa", sum := "7a3db6c26df9da6c6d34583c3402d0b45155752f4d1372f3d65562836e981a71", func := "lychway/lychwaykeep.NumShares", spec := "numShares", unfollowed := true, recurses := true, apart := false, narrowed := true }
def NumSharesUptoSaid : Prop := numSharesUptoRow.holds Try.pinned (OpenSpec.upto numSharesSpec)

/-- 'lychwaykeep.NumEuclid', WHERE WHAT IT READS IS OF BULK AT MOST 1048576: true; the input reads as it did. -/
def numEuclidUptoRow : OpenClaim := { program := "ytpckomnpeainlaa", sum := "7a3db6c26df9da6c6d34583c3402d0b45155752f4d1372f3d65562836e981a71", func := "lychway/lychwaykeep.NumEuclid", spec := "numEuclid", unfollowed := true, recurses := true, apart := false, narrowed := true }
def NumEuclidUptoSaid : Prop := numEuclidUptoRow.holds Try.pinned (OpenSpec.upto numEuclidSpec)

/-- 'lychwaykeep.GapRises', WHERE WHAT IT READS IS OF BULK AT MOST 1048576: true; the input reads as it did. -/
def gapRisesUptoRow : OpenClaim := { program := "ytpckomnpeainlaa", sum := "7a3db6c26df9da6c6d34583c3402d0b45155752f4d1372f3d65562836e981a71", func := "lychway/lychwaykeep.GapRises", spec := "gapRises", apart := false, narrowed := true }
def GapRisesUptoSaid : Prop := gapRisesUptoRow.holds Try.pinned (OpenSpec.upto gapRisesSpec)

/-- 'lychwaykeep.ValueOrderly', WHERE WHAT IT READS IS OF BULK AT MOST 1048576: true; the input reads as it did. -/
def valueOrderlyUptoRow : OpenClaim := { program := "ytpckomnpeainlaa", sum := "7a3db6c26df9da6c6d34583c3402d0b45155752f4d1372f3d65562836e981a71", func := "lychway/lychwaykeep.ValueOrderly", spec := "valueOrderly", apart := false, narrowed := true }
def ValueOrderlyUptoSaid : Prop := valueOrderlyUptoRow.holds Try.pinned (OpenSpec.upto valueOrderlySpec)

/-- 'lychwaykeep.CallStale', WHERE WHAT IT READS IS OF BULK AT MOST 1048576: true; the input reads as it did. -/
def callStaleUptoRow : OpenClaim := { program := "ytpckomnpeainlaa", sum := "7a3db6c26df9da6c6d34583c3402d0b45155752f4d1372f3d65562836e981a71", func := "lychway/lychwaykeep.CallStale", spec := "callStale", apart := false, narrowed := true }
def CallStaleUptoSaid : Prop := callStaleUptoRow.holds Try.pinned (OpenSpec.upto callStaleSpec)

/-- 'lychwaykeep.CallStays', WHERE WHAT IT READS IS OF BULK AT MOST 1048576: true; the input reads as it did. -/
def callStaysUptoRow : OpenClaim := { program := "ytpckomnpeainlaa", sum := "7a3db6c26df9da6c6d34583c3402d0b45155752f4d1372f3d65562836e981a71", func := "lychway/lychwaykeep.CallStays", spec := "callStays", apart := false, narrowed := true }
def CallStaysUptoSaid : Prop := callStaysUptoRow.holds Try.pinned (OpenSpec.upto callStaysSpec)

/-- 'lychwaykeep.CallEnds', WHERE WHAT IT READS IS OF BULK AT MOST 1048576: true; the input reads as it did. -/
def callEndsUptoRow : OpenClaim := { program := "ytpckomnpeainlaa", sum := "7a3db6c26df9da6c6d34583c3402d0b45155752f4d1372f3d65562836e981a71", func := "lychway/lychwaykeep.CallEnds", spec := "callEnds", apart := false, narrowed := true }
def CallEndsUptoSaid : Prop := callEndsUptoRow.holds Try.pinned (OpenSpec.upto callEndsSpec)

/-- 'lychwaykeep.ClientFirst', WHERE WHAT IT READS IS OF BULK AT MOST 1048576: true; the input reads as it did. -/
def clientFirstUptoRow : OpenClaim := { program := "ytpckomnpeainlaa", sum := "7a3db6c26df9da6c6d34583c3402d0b45155752f4d1372f3d65562836e981a71", func := "lychway/lychwaykeep.ClientFirst", spec := "clientFirst", apart := false, narrowed := true }
def ClientFirstUptoSaid : Prop := clientFirstUptoRow.holds Try.pinned (OpenSpec.upto clientFirstSpec)

/-- 'lychwaykeep.ClientKeeps', WHERE WHAT IT READS IS OF BULK AT MOST 1048576: true; the input reads as it did. -/
def clientKeepsUptoRow : OpenClaim := { program := "ytpckomnpeainlaa", sum := "7a3db6c26df9da6c6d34583c3402d0b45155752f4d1372f3d65562836e981a71", func := "lychway/lychwaykeep.ClientKeeps", spec := "clientKeeps", apart := false, narrowed := true }
def ClientKeepsUptoSaid : Prop := clientKeepsUptoRow.holds Try.pinned (OpenSpec.upto clientKeepsSpec)

end Rows
end Go.Proofs.Ytpckomnpeainlaa
