/-
  No cell of these rows narrows 'for every input' (looked for: loops, veiled, ifaces, maps, wideKeys, modest, calm, conditions, laid).
  DERIVED. THE GIVEN ROWS OF THIS SEAT. 12 by the template 'for every input the law returns true; each argument reads behind the call as it read before'; 0 by the template 'total and deterministic' (their statements: YtgjndkphfabnnaaTotals.lean).
  GIVEN WITH THE SEED: the statements are not yours to turn. If you find one false, say at which input.
  Laid BY PROGRAM, IN A SANDBOX (cutbox-rows.mjs): the forced cells as the released guide's own fill.sh prints them over the translation 46d73231f4ac06bb… (all of the seat's roots in one cut). By AI agents, Wed Nov 11 2026. No macro, syntax, notation, axiom, sorry.
-/
import Derived.Test.YtgjndkphfabnnaaChecked
import GoSem.Claim
import GoSem.ClaimJoined
import GoSem.ClaimMapViews
import Derived.JoinedTies
import Derived.KernelRfl
namespace Go.Proofs.Ytgjndkphfabnnaa
/- THE CELL 'sum', in the pinned program and in every row, IS THE sha256 OF THE DUMP (.gsa) THAT YtgjndkphfabnnaaProg.lean LOADS. Nothing in Lean hashes anything: it is a label: what it is worth is what the hold of that sum in a sandbox is worth. -/
noncomputable def Try.pinned : Pinned := { name := "ytgjndkphfabnnaa", sum := "46d73231f4ac06bbe678edb0db7854095a06542205ce1b7cb88333613b21e257", checked := Try.checked }
namespace Rows
def none {H : Type} : Left H := { results := [], args := [] }

/-- 'lychwaykeep.NamesAll': WHATEVER THE INPUT: true; the input reads as it did. -/
def namesAllSpec : ChangeSpec := { name := "namesAll", fn := fun _ => fun
  | [d1, d2] => { results := [.lit (.bool true)], args := [d1, d2] }
  | _ => none }
def namesAllRow : OpenClaim := { program := "ytgjndkphfabnnaa", sum := "46d73231f4ac06bbe678edb0db7854095a06542205ce1b7cb88333613b21e257", func := "lychway/lychwaykeep.NamesAll", spec := "namesAll", unfollowed := true, recurses := true, apart := false }
def NamesAllSaid : Prop := namesAllRow.holds Try.pinned (OpenSpec.ofChange namesAllSpec)

/-- ITS FALSE NEIGHBOUR: 'it returns false'. Refute it at one input. -/
def namesAllWrong : ChangeSpec := { name := "namesAll", fn := fun _ => fun
  | [d1, d2] => { results := [.lit (.bool false)], args := [d1, d2] }
  | _ => none }
def NamesAllWrongFalsely : Prop := namesAllRow.holds Try.pinned (OpenSpec.ofChange namesAllWrong)

/-- 'lychwaykeep.FieldTurned': WHATEVER THE INPUT: true; the input reads as it did. -/
def fieldTurnedSpec : ChangeSpec := { name := "fieldTurned", fn := fun _ => fun
  | [d1, d2] => { results := [.lit (.bool true)], args := [d1, d2] }
  | _ => none }
def fieldTurnedRow : OpenClaim := { program := "ytgjndkphfabnnaa", sum := "46d73231f4ac06bbe678edb0db7854095a06542205ce1b7cb88333613b21e257", func := "lychway/lychwaykeep.FieldTurned", spec := "fieldTurned", unfollowed := true, recurses := true, apart := false }
def FieldTurnedSaid : Prop := fieldTurnedRow.holds Try.pinned (OpenSpec.ofChange fieldTurnedSpec)

/-- ITS FALSE NEIGHBOUR: 'it returns false'. Refute it at one input. -/
def fieldTurnedWrong : ChangeSpec := { name := "fieldTurned", fn := fun _ => fun
  | [d1, d2] => { results := [.lit (.bool false)], args := [d1, d2] }
  | _ => none }
def FieldTurnedWrongFalsely : Prop := fieldTurnedRow.holds Try.pinned (OpenSpec.ofChange fieldTurnedWrong)

/-- 'lychwaykeep.PageOnce': WHATEVER THE INPUT: true; the input reads as it did. -/
def pageOnceSpec : ChangeSpec := { name := "pageOnce", fn := fun _ => fun
  | [d1, d2] => { results := [.lit (.bool true)], args := [d1, d2] }
  | _ => none }
def pageOnceRow : OpenClaim := { program := "ytgjndkphfabnnaa", sum := "46d73231f4ac06bbe678edb0db7854095a06542205ce1b7cb88333613b21e257", func := "lychway/lychwaykeep.PageOnce", spec := "pageOnce", unfollowed := true, recurses := true, apart := false }
def PageOnceSaid : Prop := pageOnceRow.holds Try.pinned (OpenSpec.ofChange pageOnceSpec)

/-- ITS FALSE NEIGHBOUR: 'it returns false'. Refute it at one input. -/
def pageOnceWrong : ChangeSpec := { name := "pageOnce", fn := fun _ => fun
  | [d1, d2] => { results := [.lit (.bool false)], args := [d1, d2] }
  | _ => none }
def PageOnceWrongFalsely : Prop := pageOnceRow.holds Try.pinned (OpenSpec.ofChange pageOnceWrong)

/-- 'lychwaykeep.FormFree': WHATEVER THE INPUT: true; the input reads as it did. -/
def formFreeSpec : ChangeSpec := { name := "formFree", fn := fun _ => fun
  | [d] => { results := [.lit (.bool true)], args := [d] }
  | _ => none }
def formFreeRow : OpenClaim := { program := "ytgjndkphfabnnaa", sum := "46d73231f4ac06bbe678edb0db7854095a06542205ce1b7cb88333613b21e257", func := "lychway/lychwaykeep.FormFree", spec := "formFree", unfollowed := true, recurses := true, apart := false }
def FormFreeSaid : Prop := formFreeRow.holds Try.pinned (OpenSpec.ofChange formFreeSpec)

/-- ITS FALSE NEIGHBOUR: 'it returns false'. Refute it at one input. -/
def formFreeWrong : ChangeSpec := { name := "formFree", fn := fun _ => fun
  | [d] => { results := [.lit (.bool false)], args := [d] }
  | _ => none }
def FormFreeWrongFalsely : Prop := formFreeRow.holds Try.pinned (OpenSpec.ofChange formFreeWrong)

/-- 'lychwaykeep.FoldSame': WHATEVER THE INPUT: true; the input reads as it did. -/
def foldSameSpec : ChangeSpec := { name := "foldSame", fn := fun _ => fun
  | [d1, d2, d3, d4] => { results := [.lit (.bool true)], args := [d1, d2, d3, d4] }
  | _ => none }
def foldSameRow : OpenClaim := { program := "ytgjndkphfabnnaa", sum := "46d73231f4ac06bbe678edb0db7854095a06542205ce1b7cb88333613b21e257", func := "lychway/lychwaykeep.FoldSame", spec := "foldSame", unfollowed := true, recurses := true, apart := false }
def FoldSameSaid : Prop := foldSameRow.holds Try.pinned (OpenSpec.ofChange foldSameSpec)

/-- ITS FALSE NEIGHBOUR: 'it returns false'. Refute it at one input. -/
def foldSameWrong : ChangeSpec := { name := "foldSame", fn := fun _ => fun
  | [d1, d2, d3, d4] => { results := [.lit (.bool false)], args := [d1, d2, d3, d4] }
  | _ => none }
def FoldSameWrongFalsely : Prop := foldSameRow.holds Try.pinned (OpenSpec.ofChange foldSameWrong)

/-- 'lychwaykeep.FoldClosed': WHATEVER THE INPUT: true; the input reads as it did. -/
def foldClosedSpec : ChangeSpec := { name := "foldClosed", fn := fun _ => fun
  | [d1, d2] => { results := [.lit (.bool true)], args := [d1, d2] }
  | _ => none }
def foldClosedRow : OpenClaim := { program := "ytgjndkphfabnnaa", sum := "46d73231f4ac06bbe678edb0db7854095a06542205ce1b7cb88333613b21e257", func := "lychway/lychwaykeep.FoldClosed", spec := "foldClosed", unfollowed := true, recurses := true, apart := false }
def FoldClosedSaid : Prop := foldClosedRow.holds Try.pinned (OpenSpec.ofChange foldClosedSpec)

/-- ITS FALSE NEIGHBOUR: 'it returns false'. Refute it at one input. -/
def foldClosedWrong : ChangeSpec := { name := "foldClosed", fn := fun _ => fun
  | [d1, d2] => { results := [.lit (.bool false)], args := [d1, d2] }
  | _ => none }
def FoldClosedWrongFalsely : Prop := foldClosedRow.holds Try.pinned (OpenSpec.ofChange foldClosedWrong)

/-- 'lychwaykeep.FoldLess': WHATEVER THE INPUT: true; the input reads as it did. -/
def foldLessSpec : ChangeSpec := { name := "foldLess", fn := fun _ => fun
  | [d1, d2] => { results := [.lit (.bool true)], args := [d1, d2] }
  | _ => none }
def foldLessRow : OpenClaim := { program := "ytgjndkphfabnnaa", sum := "46d73231f4ac06bbe678edb0db7854095a06542205ce1b7cb88333613b21e257", func := "lychway/lychwaykeep.FoldLess", spec := "foldLess", unfollowed := true, recurses := true, apart := false }
def FoldLessSaid : Prop := foldLessRow.holds Try.pinned (OpenSpec.ofChange foldLessSpec)

/-- ITS FALSE NEIGHBOUR: 'it returns false'. Refute it at one input. -/
def foldLessWrong : ChangeSpec := { name := "foldLess", fn := fun _ => fun
  | [d1, d2] => { results := [.lit (.bool false)], args := [d1, d2] }
  | _ => none }
def FoldLessWrongFalsely : Prop := foldLessRow.holds Try.pinned (OpenSpec.ofChange foldLessWrong)

/-- 'lychwaykeep.RankRises': WHATEVER THE INPUT: true; the input reads as it did. -/
def rankRisesSpec : ChangeSpec := { name := "rankRises", fn := fun _ => fun
  | [d] => { results := [.lit (.bool true)], args := [d] }
  | _ => none }
def rankRisesRow : OpenClaim := { program := "ytgjndkphfabnnaa", sum := "46d73231f4ac06bbe678edb0db7854095a06542205ce1b7cb88333613b21e257", func := "lychway/lychwaykeep.RankRises", spec := "rankRises", unfollowed := true, recurses := true, apart := false }
def RankRisesSaid : Prop := rankRisesRow.holds Try.pinned (OpenSpec.ofChange rankRisesSpec)

/-- ITS FALSE NEIGHBOUR: 'it returns false'. Refute it at one input. -/
def rankRisesWrong : ChangeSpec := { name := "rankRises", fn := fun _ => fun
  | [d] => { results := [.lit (.bool false)], args := [d] }
  | _ => none }
def RankRisesWrongFalsely : Prop := rankRisesRow.holds Try.pinned (OpenSpec.ofChange rankRisesWrong)

/-- 'lychwaykeep.RankCycles': WHATEVER THE INPUT: true; the input reads as it did. -/
def rankCyclesSpec : ChangeSpec := { name := "rankCycles", fn := fun _ => fun
  | [d1, d2] => { results := [.lit (.bool true)], args := [d1, d2] }
  | _ => none }
def rankCyclesRow : OpenClaim := { program := "ytgjndkphfabnnaa", sum := "46d73231f4ac06bbe678edb0db7854095a06542205ce1b7cb88333613b21e257", func := "lychway/lychwaykeep.RankCycles", spec := "rankCycles", unfollowed := true, recurses := true, apart := false }
def RankCyclesSaid : Prop := rankCyclesRow.holds Try.pinned (OpenSpec.ofChange rankCyclesSpec)

/-- ITS FALSE NEIGHBOUR: 'it returns false'. Refute it at one input. -/
def rankCyclesWrong : ChangeSpec := { name := "rankCycles", fn := fun _ => fun
  | [d1, d2] => { results := [.lit (.bool false)], args := [d1, d2] }
  | _ => none }
def RankCyclesWrongFalsely : Prop := rankCyclesRow.holds Try.pinned (OpenSpec.ofChange rankCyclesWrong)

/-- 'lychwaykeep.RankFew': WHATEVER THE INPUT: true; the input reads as it did. -/
def rankFewSpec : ChangeSpec := { name := "rankFew", fn := fun _ => fun
  | [d] => { results := [.lit (.bool true)], args := [d] }
  | _ => none }
def rankFewRow : OpenClaim := { program := "ytgjndkphfabnnaa", sum := "46d73231f4ac06bbe678edb0db7854095a06542205ce1b7cb88333613b21e257", func := "lychway/lychwaykeep.RankFew", spec := "rankFew", unfollowed := true, recurses := true, apart := false }
def RankFewSaid : Prop := rankFewRow.holds Try.pinned (OpenSpec.ofChange rankFewSpec)

/-- ITS FALSE NEIGHBOUR: 'it returns false'. Refute it at one input. -/
def rankFewWrong : ChangeSpec := { name := "rankFew", fn := fun _ => fun
  | [d] => { results := [.lit (.bool false)], args := [d] }
  | _ => none }
def RankFewWrongFalsely : Prop := rankFewRow.holds Try.pinned (OpenSpec.ofChange rankFewWrong)

/-- 'lychwaykeep.RankOrdered': WHATEVER THE INPUT: true; the input reads as it did. -/
def rankOrderedSpec : ChangeSpec := { name := "rankOrdered", fn := fun _ => fun
  | [d] => { results := [.lit (.bool true)], args := [d] }
  | _ => none }
def rankOrderedRow : OpenClaim := { program := "ytgjndkphfabnnaa", sum := "46d73231f4ac06bbe678edb0db7854095a06542205ce1b7cb88333613b21e257", func := "lychway/lychwaykeep.RankOrdered", spec := "rankOrdered", unfollowed := true, recurses := true, apart := false }
def RankOrderedSaid : Prop := rankOrderedRow.holds Try.pinned (OpenSpec.ofChange rankOrderedSpec)

/-- ITS FALSE NEIGHBOUR: 'it returns false'. Refute it at one input. -/
def rankOrderedWrong : ChangeSpec := { name := "rankOrdered", fn := fun _ => fun
  | [d] => { results := [.lit (.bool false)], args := [d] }
  | _ => none }
def RankOrderedWrongFalsely : Prop := rankOrderedRow.holds Try.pinned (OpenSpec.ofChange rankOrderedWrong)

/-- 'lychwaykeep.RankHangs': WHATEVER THE INPUT: true; the input reads as it did. -/
def rankHangsSpec : ChangeSpec := { name := "rankHangs", fn := fun _ => fun
  | [d1, d2, d3] => { results := [.lit (.bool true)], args := [d1, d2, d3] }
  | _ => none }
def rankHangsRow : OpenClaim := { program := "ytgjndkphfabnnaa", sum := "46d73231f4ac06bbe678edb0db7854095a06542205ce1b7cb88333613b21e257", func := "lychway/lychwaykeep.RankHangs", spec := "rankHangs", unfollowed := true, recurses := true, apart := false }
def RankHangsSaid : Prop := rankHangsRow.holds Try.pinned (OpenSpec.ofChange rankHangsSpec)

/-- ITS FALSE NEIGHBOUR: 'it returns false'. Refute it at one input. -/
def rankHangsWrong : ChangeSpec := { name := "rankHangs", fn := fun _ => fun
  | [d1, d2, d3] => { results := [.lit (.bool false)], args := [d1, d2, d3] }
  | _ => none }
def RankHangsWrongFalsely : Prop := rankHangsRow.holds Try.pinned (OpenSpec.ofChange rankHangsWrong)

/- THE SECOND FORM. 'bulk': how many values and letters a reading holds, each counted each time it is reached (what is shared counts as often as it is met; a slice's spare places count too). A statement '..UptoSaid' is the law's where the arguments, and the package variables that the reading takes, are together of bulk at most 1048576: NARROWER than '..Said'. Prove '..Said' where nothing that the law and all that it calls make is longer than what came in: it says more and counts as full. Else prove '..UptoSaid'. A law counts once. -/
mutual
def uptoBulk {H : Type} : DataW H → Nat
  | .lit (.string bytes) => bytes.length + 1
  | .lit _ => 1
  | .nil => 1
  | .ptr d => uptoBulk d + 1
  | .slice elems spare => uptoBulkAll elems + uptoBulkAll spare + 1
  | .agg parts => uptoBulkAll parts + 1
  | .iface _ d => uptoBulk d + 1
  | .map entries => uptoBulkEntries entries + 1
  | .held _ => 1
def uptoBulkAll {H : Type} : List (DataW H) → Nat
  | [] => 0
  | d :: r => uptoBulk d + uptoBulkAll r
def uptoBulkEntries {H : Type} : List (Lit × DataW H) → Nat
  | [] => 0
  | x :: r => uptoBulkEntry x + uptoBulkEntries r
def uptoBulkEntry {H : Type} : Lit × DataW H → Nat
  | (.string bytes, d) => bytes.length + uptoBulk d + 1
  | (_, d) => uptoBulk d + 1
 end
def uptoSmall : (H : Type) → List (DataW H) → Bool := fun _ ds => decide (uptoBulkAll ds ≤ 1048576)
def OpenSpec.upto (s : _root_.Go.ChangeSpec) : _root_.Go.OpenSpec := { _root_.Go.OpenSpec.ofChange s with cond := some uptoSmall }

/-- 'lychwaykeep.NamesAll', WHERE WHAT IT READS IS OF BULK AT MOST 1048576: true; the input reads as it did. -/
def namesAllUptoRow : OpenClaim := { program := "ytgjndkphfabnnaa", sum := "46d73231f4ac06bbe678edb0db7854095a06542205ce1b7cb88333613b21e257", func := "lychway/lychwaykeep.NamesAll", spec := "namesAll", unfollowed := true, recurses := true, apart := false, narrowed := true }
def NamesAllUptoSaid : Prop := namesAllUptoRow.holds Try.pinned (OpenSpec.upto namesAllSpec)

/-- 'lychwaykeep.FieldTurned', WHERE WHAT IT READS IS OF BULK AT MOST 1048576: true; the input reads as it did. -/
def fieldTurnedUptoRow : OpenClaim := { program := "ytgjndkphfabnnaa", sum := "46d73231f4ac06bbe678edb0db7854095a06542205ce1b7cb88333613b21e257", func := "lychway/lychwaykeep.FieldTurned", spec := "fieldTurned", unfollowed := true, recurses := true, apart := false, narrowed := true }
def FieldTurnedUptoSaid : Prop := fieldTurnedUptoRow.holds Try.pinned (OpenSpec.upto fieldTurnedSpec)

/-- 'lychwaykeep.PageOnce', WHERE WHAT IT READS IS OF BULK AT MOST 1048576: true; the input reads as it did. -/
def pageOnceUptoRow : OpenClaim := { program := "ytgjndkphfabnnaa", sum := "46d73231f4ac06bbe678edb0db7854095a06542205ce1b7cb88333613b21e257", func := "lychway/lychwaykeep.PageOnce", spec := "pageOnce", unfollowed := true, recurses := true, apart := false, narrowed := true }
def PageOnceUptoSaid : Prop := pageOnceUptoRow.holds Try.pinned (OpenSpec.upto pageOnceSpec)

/-- 'lychwaykeep.FormFree', WHERE WHAT IT READS IS OF BULK AT MOST 1048576: true; the input reads as it did. -/
def formFreeUptoRow : OpenClaim := { program := "ytgjndkphfabnnaa", sum := "46d73231f4ac06bbe678edb0db7854095a06542205ce1b7cb88333613b21e257", func := "lychway/lychwaykeep.FormFree", spec := "formFree", unfollowed := true, recurses := true, apart := false, narrowed := true }
def FormFreeUptoSaid : Prop := formFreeUptoRow.holds Try.pinned (OpenSpec.upto formFreeSpec)

/-- 'lychwaykeep.FoldSame', WHERE WHAT IT READS IS OF BULK AT MOST 1048576: true; the input reads as it did. -/
def foldSameUptoRow : OpenClaim := { program := "ytgjndkphfabnnaa", sum := "46d73231f4ac06bbe678edb0db7854095a06542205ce1b7cb88333613b21e257", func := "lychway/lychwaykeep.FoldSame", spec := "foldSame", unfollowed := true, recurses := true, apart := false, narrowed := true }
def FoldSameUptoSaid : Prop := foldSameUptoRow.holds Try.pinned (OpenSpec.upto foldSameSpec)

/-- 'lychwaykeep.FoldClosed', WHERE WHAT IT READS IS OF BULK AT MOST 1048576: true; the input reads as it did. -/
def foldClosedUptoRow : OpenClaim := { program := "ytgjndkphfabnnaa", sum := "46d73231f4ac06bbe678edb0db7854095a06542205ce1b7cb88333613b21e257", func := "lychway/lychwaykeep.FoldClosed", spec := "foldClosed", unfollowed := true, recurses := true, apart := false, narrowed := true }
def FoldClosedUptoSaid : Prop := foldClosedUptoRow.holds Try.pinned (OpenSpec.upto foldClosedSpec)

/-- 'lychwaykeep.FoldLess', WHERE WHAT IT READS IS OF BULK AT MOST 1048576: true; the input reads as it did. -/
def foldLessUptoRow : OpenClaim := { program := "ytgjndkphfabnnaa", sum := "46d73231f4ac06bbe678edb0db7854095a06542205ce1b7cb88333613b21e257", func := "lychway/lychwaykeep.FoldLess", spec := "foldLess", unfollowed := true, recurses := true, apart := false, narrowed := true }
def FoldLessUptoSaid : Prop := foldLessUptoRow.holds Try.pinned (OpenSpec.upto foldLessSpec)

/-- 'lychwaykeep.RankRises', WHERE WHAT IT READS IS OF BULK AT MOST 1048576: true; the input reads as it did. -/
def rankRisesUptoRow : OpenClaim := { program := "ytgjndkphfabnnaa", sum := "46d73231f4ac06bbe678edb0db7854095a06542205ce1b7cb88333613b21e257", func := "lychway/lychwaykeep.RankRises", spec := "rankRises", unfollowed := true, recurses := true, apart := false, narrowed := true }
def RankRisesUptoSaid : Prop := rankRisesUptoRow.holds Try.pinned (OpenSpec.upto rankRisesSpec)

/-- 'lychwaykeep.RankCycles', WHERE WHAT IT READS IS OF BULK AT MOST 1048576: true; the input reads as it did. -/
def rankCyclesUptoRow : OpenClaim := { program := "ytgjndkphfabnnaa", sum := "46d73231f4ac06bbe678edb0db7854095a06542205ce1b7cb88333613b21e257", func := "lychway/lychwaykeep.RankCycles", spec := "rankCycles", unfollowed := true, recurses := true, apart := false, narrowed := true }
def RankCyclesUptoSaid : Prop := rankCyclesUptoRow.holds Try.pinned (OpenSpec.upto rankCyclesSpec)

/-- 'lychwaykeep.RankFew', WHERE WHAT IT READS IS OF BULK AT MOST 1048576: true; the input reads as it did. -/
def rankFewUptoRow : OpenClaim := { program := "ytgjndkphfabnnaa", sum := "46d73231f4ac06bbe678edb0db7854095a06542205ce1b7cb88333613b21e257", func := "lychway/lychwaykeep.RankFew", spec := "rankFew", unfollowed := true, recurses := true, apart := false, narrowed := true }
def RankFewUptoSaid : Prop := rankFewUptoRow.holds Try.pinned (OpenSpec.upto rankFewSpec)

/-- 'lychwaykeep.RankOrdered', WHERE WHAT IT READS IS OF BULK AT MOST 1048576: true; the input reads as it did. -/
def rankOrderedUptoRow : OpenClaim := { program := "ytgjndkphfabnnaa", sum := "46d73231f4ac06bbe678edb0db7854095a06542205ce1b7cb88333613b21e257", func := "lychway/lychwaykeep.RankOrdered", spec := "rankOrdered", unfollowed := true, recurses := true, apart := false, narrowed := true }
def RankOrderedUptoSaid : Prop := rankOrderedUptoRow.holds Try.pinned (OpenSpec.upto rankOrderedSpec)

/-- 'lychwaykeep.RankHangs', WHERE WHAT IT READS IS OF BULK AT MOST 1048576: true; the input reads as it did. -/
def rankHangsUptoRow : OpenClaim := { program := "ytgjndkphfabnnaa", sum := "46d73231f4ac06bbe678edb0db7854095a06542205ce1b7cb88333613b21e257", func := "lychway/lychwaykeep.RankHangs", spec := "rankHangs", unfollowed := true, recurses := true, apart := false, narrowed := true }
def RankHangsUptoSaid : Prop := rankHangsUptoRow.holds Try.pinned (OpenSpec.upto rankHangsSpec)

end Rows
end Go.Proofs.Ytgjndkphfabnnaa
