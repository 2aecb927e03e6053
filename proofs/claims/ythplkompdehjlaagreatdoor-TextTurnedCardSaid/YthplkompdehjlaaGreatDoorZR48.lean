/-
  DERIVED. GIVEN WITH THE SEED: THE CARDS: each row of YthplkompdehjlaaGreatDoorRows.lean that lists a variable, with what it lists TIED to the program's text (the seventh form; the later family's looks); each row that meets fmt, with fmt's text TOLD by the authors' own Lean function (tested against real Go, not proved from fmt's source: count such statements apart). THE CARD IS WHAT COUNTS. Prove the row's statement (the work); the ties are given (YthplkompdehjlaaGreatDoorTie.lean); close each card by the builder's one call (the guide's Derived/Test/ToyasCard.lean, 'card_holds'). Laid BY PROGRAM, IN A SANDBOX (cutbox-door.mjs). By AI agents, Wed Nov 11 2026. No macro, syntax, notation, axiom, sorry.
-/
import Derived.Test.YthplkompdehjlaaGreatDoorRows
import GoSem.ClaimSeven
namespace Go.Proofs.YthplkompdehjlaaGreatDoor
namespace Rows
def textBackCard : Claim7 := { stood := { row := textBackRow, standIns := [], harness := (true, "3b08d60d59fd575a6e7d398268cccd65bf93baf221d128d0d211d8c23d213c07"), looks := true }, kinds := [], alts := [], laidByText := true, laidKinds := [.data, .data, .data, .data, .sentinel, .sentinel, .pinned], laidTests := true, laidLooks := .later }
def TextBackCardSaid:Prop:=Claim7.holds Tryz.pinned (.plain (OpenSpec.ofChange textBackSpec)) textBackCard
def textTurnedCard : Claim7 := { stood := { row := textTurnedRow, standIns := [], harness := (true, "3b08d60d59fd575a6e7d398268cccd65bf93baf221d128d0d211d8c23d213c07"), looks := true }, kinds := [], alts := [], laidByText := true, laidKinds := [.data, .data, .data, .data, .sentinel, .sentinel, .pinned], laidTests := true, laidLooks := .later }
def TextTurnedCardSaid:Prop:=Claim7.holds Tryz.pinned (.plain (OpenSpec.ofChange textTurnedSpec)) textTurnedCard
end Rows
end Go.Proofs.YthplkompdehjlaaGreatDoor
