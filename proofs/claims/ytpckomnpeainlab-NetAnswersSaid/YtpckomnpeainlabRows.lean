/-
  No cell of these rows narrows 'for every input' (looked for: loops, veiled, ifaces, maps, wideKeys, modest, calm, conditions, laid).
  DERIVED. THE GIVEN ROWS OF THIS SEAT. 12 by the template 'for every input the law returns true; each argument reads behind the call as it read before'; 0 by the template 'total and deterministic' (their statements: YtpckomnpeainlabTotals.lean).
  GIVEN WITH THE SEED: the statements are not yours to turn. If you find one false, say at which input.
  Laid BY PROGRAM, IN A SANDBOX (cutbox-rows.mjs): the forced cells as the released guide's own fill.sh prints them over the translation 87bef2c4811e7d6c… (all of the seat's roots in one cut). By AI agents, Wed Nov 11 2026. No macro, syntax, notation, axiom, sorry.
-/
import Derived.Test.YtpckomnpeainlabChecked
import GoSem.Claim
import GoSem.ClaimJoined
import GoSem.ClaimMapViews
import Derived.JoinedTies
import Derived.KernelRfl
namespace Go.Proofs.Ytpckomnpeainlab
/- THE CELL 'sum', in the pinned program and in every row, IS THE sha256 OF THE DUMP (.gsa) THAT YtpckomnpeainlabProg.lean LOADS. Nothing in Lean hashes anything: it is a label: what it is worth is what the hold of that sum in a sandbox is worth. -/
noncomputable def Try.pinned : Pinned := { name := "ytpckomnpeainlab", sum := "87bef2c4811e7d6ca52319bcc6fb15daeed719633320aec4f1d0a0aaf3dc6baf", checked := Try.checked }
namespace Rows
def none {H : Type} : Left H := { results := [], args := [] }

/-- 'lychwaykeep.ClockSorted': WHATEVER THE INPUT: true; the input reads as it did. -/
def clockSortedSpec : ChangeSpec := { name := "clockSorted", fn := fun _ => fun
  | [d] => { results := [.lit (.bool true)], args := [d] }
  | _ => none }
def clockSortedRow : OpenClaim := { program := "ytpckomnpeainlab", sum := "87bef2c4811e7d6ca52319bcc6fb15daeed719633320aec4f1d0a0aaf3dc6baf", func := "lychway/lychwaykeep.ClockSorted", spec := "clockSorted", unfollowed := true, recurses := true, apart := false }
def ClockSortedSaid : Prop := clockSortedRow.holds Try.pinned (OpenSpec.ofChange clockSortedSpec)

/-- ITS FALSE NEIGHBOUR: 'it returns false'. Refute it at one input. -/
def clockSortedWrong : ChangeSpec := { name := "clockSorted", fn := fun _ => fun
  | [d] => { results := [.lit (.bool false)], args := [d] }
  | _ => none }
def ClockSortedWrongFalsely : Prop := clockSortedRow.holds Try.pinned (OpenSpec.ofChange clockSortedWrong)

/-- 'lychwaykeep.ClockBack': WHATEVER THE INPUT: true; the input reads as it did. -/
def clockBackSpec : ChangeSpec := { name := "clockBack", fn := fun _ => fun
  | [d1, d2] => { results := [.lit (.bool true)], args := [d1, d2] }
  | _ => none }
def clockBackRow : OpenClaim := { program := "ytpckomnpeainlab", sum := "87bef2c4811e7d6ca52319bcc6fb15daeed719633320aec4f1d0a0aaf3dc6baf", func := "lychway/lychwaykeep.ClockBack", spec := "clockBack", unfollowed := true, recurses := true, apart := false }
def ClockBackSaid : Prop := clockBackRow.holds Try.pinned (OpenSpec.ofChange clockBackSpec)

/-- ITS FALSE NEIGHBOUR: 'it returns false'. Refute it at one input. -/
def clockBackWrong : ChangeSpec := { name := "clockBack", fn := fun _ => fun
  | [d1, d2] => { results := [.lit (.bool false)], args := [d1, d2] }
  | _ => none }
def ClockBackWrongFalsely : Prop := clockBackRow.holds Try.pinned (OpenSpec.ofChange clockBackWrong)

/-- 'lychwaykeep.ClockMoves': WHATEVER THE INPUT: true; the input reads as it did. -/
def clockMovesSpec : ChangeSpec := { name := "clockMoves", fn := fun _ => fun
  | [d1, d2, d3] => { results := [.lit (.bool true)], args := [d1, d2, d3] }
  | _ => none }
def clockMovesRow : OpenClaim := { program := "ytpckomnpeainlab", sum := "87bef2c4811e7d6ca52319bcc6fb15daeed719633320aec4f1d0a0aaf3dc6baf", func := "lychway/lychwaykeep.ClockMoves", spec := "clockMoves", unfollowed := true, recurses := true, apart := false }
def ClockMovesSaid : Prop := clockMovesRow.holds Try.pinned (OpenSpec.ofChange clockMovesSpec)

/-- ITS FALSE NEIGHBOUR: 'it returns false'. Refute it at one input. -/
def clockMovesWrong : ChangeSpec := { name := "clockMoves", fn := fun _ => fun
  | [d1, d2, d3] => { results := [.lit (.bool false)], args := [d1, d2, d3] }
  | _ => none }
def ClockMovesWrongFalsely : Prop := clockMovesRow.holds Try.pinned (OpenSpec.ofChange clockMovesWrong)

/-- 'lychwaykeep.ClockDue': WHATEVER THE INPUT: true; the input reads as it did. -/
def clockDueSpec : ChangeSpec := { name := "clockDue", fn := fun _ => fun
  | [d1, d2] => { results := [.lit (.bool true)], args := [d1, d2] }
  | _ => none }
def clockDueRow : OpenClaim := { program := "ytpckomnpeainlab", sum := "87bef2c4811e7d6ca52319bcc6fb15daeed719633320aec4f1d0a0aaf3dc6baf", func := "lychway/lychwaykeep.ClockDue", spec := "clockDue", unfollowed := true, recurses := true, apart := false }
def ClockDueSaid : Prop := clockDueRow.holds Try.pinned (OpenSpec.ofChange clockDueSpec)

/-- ITS FALSE NEIGHBOUR: 'it returns false'. Refute it at one input. -/
def clockDueWrong : ChangeSpec := { name := "clockDue", fn := fun _ => fun
  | [d1, d2] => { results := [.lit (.bool false)], args := [d1, d2] }
  | _ => none }
def ClockDueWrongFalsely : Prop := clockDueRow.holds Try.pinned (OpenSpec.ofChange clockDueWrong)

/-- 'lychwaykeep.NetApart': WHATEVER THE INPUT: true; the input reads as it did. -/
def netApartSpec : ChangeSpec := { name := "netApart", fn := fun _ => fun
  | [d1, d2, d3] => { results := [.lit (.bool true)], args := [d1, d2, d3] }
  | _ => none }
def netApartRow : OpenClaim := { program := "ytpckomnpeainlab", sum := "87bef2c4811e7d6ca52319bcc6fb15daeed719633320aec4f1d0a0aaf3dc6baf", func := "lychway/lychwaykeep.NetApart", spec := "netApart", apart := false }
def NetApartSaid : Prop := netApartRow.holds Try.pinned (OpenSpec.ofChange netApartSpec)

/-- ITS FALSE NEIGHBOUR: 'it returns false'. Refute it at one input. -/
def netApartWrong : ChangeSpec := { name := "netApart", fn := fun _ => fun
  | [d1, d2, d3] => { results := [.lit (.bool false)], args := [d1, d2, d3] }
  | _ => none }
def NetApartWrongFalsely : Prop := netApartRow.holds Try.pinned (OpenSpec.ofChange netApartWrong)

/-- 'lychwaykeep.NetFull': WHATEVER THE INPUT: true; the input reads as it did. -/
def netFullSpec : ChangeSpec := { name := "netFull", fn := fun _ => fun
  | [d1, d2] => { results := [.lit (.bool true)], args := [d1, d2] }
  | _ => none }
def netFullRow : OpenClaim := { program := "ytpckomnpeainlab", sum := "87bef2c4811e7d6ca52319bcc6fb15daeed719633320aec4f1d0a0aaf3dc6baf", func := "lychway/lychwaykeep.NetFull", spec := "netFull", apart := false }
def NetFullSaid : Prop := netFullRow.holds Try.pinned (OpenSpec.ofChange netFullSpec)

/-- ITS FALSE NEIGHBOUR: 'it returns false'. Refute it at one input. -/
def netFullWrong : ChangeSpec := { name := "netFull", fn := fun _ => fun
  | [d1, d2] => { results := [.lit (.bool false)], args := [d1, d2] }
  | _ => none }
def NetFullWrongFalsely : Prop := netFullRow.holds Try.pinned (OpenSpec.ofChange netFullWrong)

/-- 'lychwaykeep.NetAnswers': WHATEVER THE INPUT: true; the input reads as it did. -/
def netAnswersSpec : ChangeSpec := { name := "netAnswers", fn := fun _ => fun
  | [d1, d2, d3] => { results := [.lit (.bool true)], args := [d1, d2, d3] }
  | _ => none }
def netAnswersRow : OpenClaim := { program := "ytpckomnpeainlab", sum := "87bef2c4811e7d6ca52319bcc6fb15daeed719633320aec4f1d0a0aaf3dc6baf", func := "lychway/lychwaykeep.NetAnswers", spec := "netAnswers", apart := false }
def NetAnswersSaid : Prop := netAnswersRow.holds Try.pinned (OpenSpec.ofChange netAnswersSpec)

/-- ITS FALSE NEIGHBOUR: 'it returns false'. Refute it at one input. -/
def netAnswersWrong : ChangeSpec := { name := "netAnswers", fn := fun _ => fun
  | [d1, d2, d3] => { results := [.lit (.bool false)], args := [d1, d2, d3] }
  | _ => none }
def NetAnswersWrongFalsely : Prop := netAnswersRow.holds Try.pinned (OpenSpec.ofChange netAnswersWrong)

/-- 'lychwaykeep.NetCounts': WHATEVER THE INPUT: true; the input reads as it did. -/
def netCountsSpec : ChangeSpec := { name := "netCounts", fn := fun _ => fun
  | [d1, d2] => { results := [.lit (.bool true)], args := [d1, d2] }
  | _ => none }
def netCountsRow : OpenClaim := { program := "ytpckomnpeainlab", sum := "87bef2c4811e7d6ca52319bcc6fb15daeed719633320aec4f1d0a0aaf3dc6baf", func := "lychway/lychwaykeep.NetCounts", spec := "netCounts", inPlace := ["slices.overlaps[lychway/api.Letter]"], apart := false }
def NetCountsSaid : Prop := netCountsRow.holds Try.pinned (OpenSpec.ofChange netCountsSpec)

/-- ITS FALSE NEIGHBOUR: 'it returns false'. Refute it at one input. -/
def netCountsWrong : ChangeSpec := { name := "netCounts", fn := fun _ => fun
  | [d1, d2] => { results := [.lit (.bool false)], args := [d1, d2] }
  | _ => none }
def NetCountsWrongFalsely : Prop := netCountsRow.holds Try.pinned (OpenSpec.ofChange netCountsWrong)

/-- 'lychwaykeep.FieldAsks': WHATEVER THE INPUT: true; the input reads as it did. -/
def fieldAsksSpec : ChangeSpec := { name := "fieldAsks", fn := fun _ => fun
  | [d1, d2, d3] => { results := [.lit (.bool true)], args := [d1, d2, d3] }
  | _ => none }
def fieldAsksRow : OpenClaim := { program := "ytpckomnpeainlab", sum := "87bef2c4811e7d6ca52319bcc6fb15daeed719633320aec4f1d0a0aaf3dc6baf", func := "lychway/lychwaykeep.FieldAsks", spec := "fieldAsks", unfollowed := true, recurses := true, apart := false }
def FieldAsksSaid : Prop := fieldAsksRow.holds Try.pinned (OpenSpec.ofChange fieldAsksSpec)

/-- ITS FALSE NEIGHBOUR: 'it returns false'. Refute it at one input. -/
def fieldAsksWrong : ChangeSpec := { name := "fieldAsks", fn := fun _ => fun
  | [d1, d2, d3] => { results := [.lit (.bool false)], args := [d1, d2, d3] }
  | _ => none }
def FieldAsksWrongFalsely : Prop := fieldAsksRow.holds Try.pinned (OpenSpec.ofChange fieldAsksWrong)

/-- 'lychwaykeep.FormOnce': WHATEVER THE INPUT: true; the input reads as it did. -/
def formOnceSpec : ChangeSpec := { name := "formOnce", fn := fun _ => fun
  | [d1, d2, d3] => { results := [.lit (.bool true)], args := [d1, d2, d3] }
  | _ => none }
def formOnceRow : OpenClaim := { program := "ytpckomnpeainlab", sum := "87bef2c4811e7d6ca52319bcc6fb15daeed719633320aec4f1d0a0aaf3dc6baf", func := "lychway/lychwaykeep.FormOnce", spec := "formOnce", unfollowed := true, recurses := true, apart := false }
def FormOnceSaid : Prop := formOnceRow.holds Try.pinned (OpenSpec.ofChange formOnceSpec)

/-- ITS FALSE NEIGHBOUR: 'it returns false'. Refute it at one input. -/
def formOnceWrong : ChangeSpec := { name := "formOnce", fn := fun _ => fun
  | [d1, d2, d3] => { results := [.lit (.bool false)], args := [d1, d2, d3] }
  | _ => none }
def FormOnceWrongFalsely : Prop := formOnceRow.holds Try.pinned (OpenSpec.ofChange formOnceWrong)

/-- 'lychwaykeep.LexWrong': WHATEVER THE INPUT: true; the input reads as it did. -/
def lexWrongSpec : ChangeSpec := { name := "lexWrong", fn := fun _ => fun
  | [d] => { results := [.lit (.bool true)], args := [d] }
  | _ => none }
def lexWrongRow : OpenClaim := { program := "ytpckomnpeainlab", sum := "87bef2c4811e7d6ca52319bcc6fb15daeed719633320aec4f1d0a0aaf3dc6baf", func := "lychway/lychwaykeep.LexWrong", spec := "lexWrong", unfollowed := true, recurses := true, apart := false }
def LexWrongSaid : Prop := lexWrongRow.holds Try.pinned (OpenSpec.ofChange lexWrongSpec)

/-- ITS FALSE NEIGHBOUR: 'it returns false'. Refute it at one input. -/
def lexWrongWrong : ChangeSpec := { name := "lexWrong", fn := fun _ => fun
  | [d] => { results := [.lit (.bool false)], args := [d] }
  | _ => none }
def LexWrongWrongFalsely : Prop := lexWrongRow.holds Try.pinned (OpenSpec.ofChange lexWrongWrong)

/-- 'lychwaykeep.LexFew': WHATEVER THE INPUT: true; the input reads as it did. -/
def lexFewSpec : ChangeSpec := { name := "lexFew", fn := fun _ => fun
  | [d] => { results := [.lit (.bool true)], args := [d] }
  | _ => none }
def lexFewRow : OpenClaim := { program := "ytpckomnpeainlab", sum := "87bef2c4811e7d6ca52319bcc6fb15daeed719633320aec4f1d0a0aaf3dc6baf", func := "lychway/lychwaykeep.LexFew", spec := "lexFew", unfollowed := true, recurses := true, apart := false }
def LexFewSaid : Prop := lexFewRow.holds Try.pinned (OpenSpec.ofChange lexFewSpec)

/-- ITS FALSE NEIGHBOUR: 'it returns false'. Refute it at one input. -/
def lexFewWrong : ChangeSpec := { name := "lexFew", fn := fun _ => fun
  | [d] => { results := [.lit (.bool false)], args := [d] }
  | _ => none }
def LexFewWrongFalsely : Prop := lexFewRow.holds Try.pinned (OpenSpec.ofChange lexFewWrong)

/- THE SECOND FORM. 'bulk': how many values and letters a reading holds, each counted each time it is reached (what is shared counts as often as it is met; a slice's spare places count too). A statement '..UptoSaid' is the law's where the arguments, and the package variables that the reading takes, are together of bulk at most 1048576: NARROWER than '..Said'. Prove '..Said' where nothing that the law and all that it calls make is longer than what came in: it says more and counts as full. Else prove '..UptoSaid'. A law counts once. -/
mutual
def uptoBulk {H : Type} : DataW H → Nat
  | .lit (.string bytes) => bytes.length + 1
  | .lit _ => 1
  | .nil => 1
  | .ptr d => uptoBulk d + 1
  | .slice elems spare => uptoBulkAll elems + uptoBulkAll spare + 1
  | .agg parts => uptoBulkAll parts + 1
  | .iface _ d => uptoBulk d + 1
  | .map entries => uptoBulkEntries entries + 1
  | .held _ => 1
def uptoBulkAll {H : Type} : List (DataW H) → Nat
  | [] => 0
  | d :: r => uptoBulk d + uptoBulkAll r
def uptoBulkEntries {H : Type} : List (Lit × DataW H) → Nat
  | [] => 0
  | x :: r => uptoBulkEntry x + uptoBulkEntries r
def uptoBulkEntry {H : Type} : Lit × DataW H → Nat
  | (.string bytes, d) => bytes.length + uptoBulk d + 1
  | (_, d) => uptoBulk d + 1
 end
def uptoSmall : (H : Type) → List (DataW H) → Bool := fun _ ds => decide (uptoBulkAll ds ≤ 1048576)
def OpenSpec.upto (s : _root_.Go.ChangeSpec) : _root_.Go.OpenSpec := { _root_.Go.OpenSpec.ofChange s with cond := some uptoSmall }

/-- 'lychwaykeep.ClockSorted', WHERE WHAT IT READS IS OF BULK AT MOST 1048576: true; the input reads as it did. -/
def clockSortedUptoRow : OpenClaim := { program := "ytpckomnpeainlab", sum := "87bef2c4811e7d6ca52319bcc6fb15daeed719633320aec4f1d0a0aaf3dc6baf", func := "lychway/lychwaykeep.ClockSorted", spec := "clockSorted", unfollowed := true, recurses := true, apart := false, narrowed := true }
def ClockSortedUptoSaid : Prop := clockSortedUptoRow.holds Try.pinned (OpenSpec.upto clockSortedSpec)

/-- 'lychwaykeep.ClockBack', WHERE WHAT IT READS IS OF BULK AT MOST 1048576: true; the input reads as it did. -/
def clockBackUptoRow : OpenClaim := { program := "ytpckomnpeainlab", sum := "87bef2c4811e7d6ca52319bcc6fb15daeed719633320aec4f1d0a0aaf3dc6baf", func := "lychway/lychwaykeep.ClockBack", spec := "clockBack", unfollowed := true, recurses := true, apart := false, narrowed := true }
def ClockBackUptoSaid : Prop := clockBackUptoRow.holds Try.pinned (OpenSpec.upto clockBackSpec)

/-- 'lychwaykeep.ClockMoves', WHERE WHAT IT READS IS OF BULK AT MOST 1048576: true; the input reads as it did. -/
def clockMovesUptoRow : OpenClaim := { program := "ytpckomnpeainlab", sum := "87bef2c4811e7d6ca52319bcc6fb15daeed719633320aec4f1d0a0aaf3dc6baf", func := "lychway/lychwaykeep.ClockMoves", spec := "clockMoves", unfollowed := true, recurses := true, apart := false, narrowed := true }
def ClockMovesUptoSaid : Prop := clockMovesUptoRow.holds Try.pinned (OpenSpec.upto clockMovesSpec)

/-- 'lychwaykeep.ClockDue', WHERE WHAT IT READS IS OF BULK AT MOST 1048576: true; the input reads as it did. -/
def clockDueUptoRow : OpenClaim := { program := "ytpckomnpeainlab", sum := "87bef2c4811e7d6ca52319bcc6fb15daeed719633320aec4f1d0a0aaf3dc6baf", func := "lychway/lychwaykeep.ClockDue", spec := "clockDue", unfollowed := true, recurses := true, apart := false, narrowed := true }
def ClockDueUptoSaid : Prop := clockDueUptoRow.holds Try.pinned (OpenSpec.upto clockDueSpec)

/-- 'lychwaykeep.NetApart', WHERE WHAT IT READS IS OF BULK AT MOST 1048576: true; the input reads as it did. -/
def netApartUptoRow : OpenClaim := { program := "ytpckomnpeainlab", sum := "87bef2c4811e7d6ca52319bcc6fb15daeed719633320aec4f1d0a0aaf3dc6baf", func := "lychway/lychwaykeep.NetApart", spec := "netApart", apart := false, narrowed := true }
def NetApartUptoSaid : Prop := netApartUptoRow.holds Try.pinned (OpenSpec.upto netApartSpec)

/-- 'lychwaykeep.NetFull', WHERE WHAT IT READS IS OF BULK AT MOST 1048576: true; the input reads as it did. -/
def netFullUptoRow : OpenClaim := { program := "ytpckomnpeainlab", sum := "87bef2c4811e7d6ca52319bcc6fb15daeed719633320aec4f1d0a0aaf3dc6baf", func := "lychway/lychwaykeep.NetFull", spec := "netFull", apart := false, narrowed := true }
def NetFullUptoSaid : Prop := netFullUptoRow.holds Try.pinned (OpenSpec.upto netFullSpec)

/-- 'lychwaykeep.NetAnswers', WHERE WHAT IT READS IS OF BULK AT MOST 1048576: true; the input reads as it did. -/
def netAnswersUptoRow : OpenClaim := { program := "ytpckomnpeainlab", sum := "87bef2c4811e7d6ca52319bcc6fb15daeed719633320aec4f1d0a0aaf3dc6baf", func := "lychway/lychwaykeep.NetAnswers", spec := "netAnswers", apart := false, narrowed := true }
def NetAnswersUptoSaid : Prop := netAnswersUptoRow.holds Try.pinned (OpenSpec.upto netAnswersSpec)

/-- 'lychwaykeep.NetCounts', WHERE WHAT IT READS IS OF BULK AT MOST 1048576: true; the input reads as it did. -/
def netCountsUptoRow : OpenClaim := { program := "ytpckomnpeainlab", sum := "87bef2c4811e7d6ca52319bcc6fb15daeed719633320aec4f1d0a0aaf3dc6baf", func := "lychway/lychwaykeep.NetCounts", spec := "netCounts", inPlace := ["slices.overlaps[lychway/api.Letter]"], apart := false, narrowed := true }
def NetCountsUptoSaid : Prop := netCountsUptoRow.holds Try.pinned (OpenSpec.upto netCountsSpec)

/-- 'lychwaykeep.FieldAsks', WHERE WHAT IT READS IS OF BULK AT MOST 1048576: true; the input reads as it did. -/
def fieldAsksUptoRow : OpenClaim := { program := "ytpckomnpeainlab", sum := "87bef2c4811e7d6ca52319bcc6fb15daeed719633320aec4f1d0a0aaf3dc6baf", func := "lychway/lychwaykeep.FieldAsks", spec := "fieldAsks", unfollowed := true, recurses := true, apart := false, narrowed := true }
def FieldAsksUptoSaid : Prop := fieldAsksUptoRow.holds Try.pinned (OpenSpec.upto fieldAsksSpec)

/-- 'lychwaykeep.FormOnce', WHERE WHAT IT READS IS OF BULK AT MOST 1048576: true; the input reads as it did. -/
def formOnceUptoRow : OpenClaim := { program := "ytpckomnpeainlab", sum := "87bef2c4811e7d6ca52319bcc6fb15daeed719633320aec4f1d0a0aaf3dc6baf", func := "lychway/lychwaykeep.FormOnce", spec := "formOnce", unfollowed := true, recurses := true, apart := false, narrowed := true }
def FormOnceUptoSaid : Prop := formOnceUptoRow.holds Try.pinned (OpenSpec.upto formOnceSpec)

/-- 'lychwaykeep.LexWrong', WHERE WHAT IT READS IS OF BULK AT MOST 1048576: true; the input reads as it did. -/
def lexWrongUptoRow : OpenClaim := { program := "ytpckomnpeainlab", sum := "87bef2c4811e7d6ca52319bcc6fb15daeed719633320aec4f1d0a0aaf3dc6baf", func := "lychway/lychwaykeep.LexWrong", spec := "lexWrong", unfollowed := true, recurses := true, apart := false, narrowed := true }
def LexWrongUptoSaid : Prop := lexWrongUptoRow.holds Try.pinned (OpenSpec.upto lexWrongSpec)

/-- 'lychwaykeep.LexFew', WHERE WHAT IT READS IS OF BULK AT MOST 1048576: true; the input reads as it did. -/
def lexFewUptoRow : OpenClaim := { program := "ytpckomnpeainlab", sum := "87bef2c4811e7d6ca52319bcc6fb15daeed719633320aec4f1d0a0aaf3dc6baf", func := "lychway/lychwaykeep.LexFew", spec := "lexFew", unfollowed := true, recurses := true, apart := false, narrowed := true }
def LexFewUptoSaid : Prop := lexFewUptoRow.holds Try.pinned (OpenSpec.upto lexFewSpec)

end Rows
end Go.Proofs.Ytpckomnpeainlab
