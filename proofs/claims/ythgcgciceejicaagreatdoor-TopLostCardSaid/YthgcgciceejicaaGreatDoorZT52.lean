/-
  DERIVED. GIVEN WITH THE SEED: THE CARDS: each row of YthgcgciceejicaaGreatDoorRows.lean that lists a variable, with what it lists TIED to the program's text (the seventh form; the later family's looks); each row that meets fmt, with fmt's text TOLD by the authors' own Lean function (tested against real Go, not proved from fmt's source: count such statements apart). THE CARD IS WHAT COUNTS. Prove the row's statement (the work); the ties are given (YthgcgciceejicaaGreatDoorTie.lean); close each card by the builder's one call (the guide's Derived/Test/ToyasCard.lean, 'card_holds'). Laid BY PROGRAM, IN A SANDBOX (cutbox-door.mjs). By AI agents, Wed Nov 11 2026. No macro, syntax, notation, axiom, sorry.
-/
import Derived.Test.YthgcgciceejicaaGreatDoorRows
import GoSem.ClaimSeven
namespace Go.Proofs.YthgcgciceejicaaGreatDoor
namespace Rows
def topLostCard : Claim7 := { stood := { row := topLostRow, standIns := [], harness := (true, "9fc7a07546e60872ebddeb95faa144952b1b48cdfcf5000b889e25b0b9a36fe2"), looks := true }, kinds := [], alts := [], laidByText := true, laidKinds := [.data, .data, .data, .data, .sentinel, .sentinel, .pinned], laidTests := true, laidLooks := .later }
def TopLostCardSaid:Prop:=Claim7.holds Tryz.pinned (.plain (OpenSpec.ofChange topLostSpec)) topLostCard
end Rows
end Go.Proofs.YthgcgciceejicaaGreatDoor
