/-
  DERIVED. GIVEN WITH THE SEED: THE CARDS: each row of YtmoahpojchndiaaGreatDoorRows.lean that lists a variable, with what it lists TIED to the program's text (the seventh form; the later family's looks); each row that meets fmt, with fmt's text TOLD by the authors' own Lean function (tested against real Go, not proved from fmt's source: count such statements apart). THE CARD IS WHAT COUNTS. Prove the row's statement (the work); the ties are given (YtmoahpojchndiaaGreatDoorTie.lean); close each card by the builder's one call (the guide's Derived/Test/ToyasCard.lean, 'card_holds'). Laid BY PROGRAM, IN A SANDBOX (cutbox-door.mjs). By AI agents, Wed Nov 11 2026. No macro, syntax, notation, axiom, sorry.
-/
import Derived.Test.YtmoahpojchndiaaGreatDoorRows
import GoSem.ClaimSeven
namespace Go.Proofs.YtmoahpojchndiaaGreatDoor
namespace Rows
def submitAllCard : Claim7 := { stood := { row := submitAllRow, standIns := [], harness := (true, "8dddf3ad93cf676a5a82cc75b51ac0067b5028cc242a4d456c398370ffabf43d"), looks := false }, kinds := [], alts := [], laidByText := true, laidKinds := [.data, .data, .data, .data, .pinned], laidTests := true, laidLooks := .later }
def SubmitAllCardSaid:Prop:=Claim7.holds Tryz.pinned (.plain (OpenSpec.ofChange submitAllSpec)) submitAllCard
end Rows
end Go.Proofs.YtmoahpojchndiaaGreatDoor
