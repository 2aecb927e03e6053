/-
  DERIVED. GIVEN WITH THE SEED: THE CARDS: each row of YthplkompdehjlaaGreatDoorRows.lean that lists a variable, with what it lists TIED to the program's text (the seventh form; the later family's looks); each row that meets fmt, with fmt's text TOLD by the authors' own Lean function (tested against real Go, not proved from fmt's source: count such statements apart). THE CARD IS WHAT COUNTS. Prove the row's statement (the work); the ties are given (YthplkompdehjlaaGreatDoorTie.lean); close each card by the builder's one call (the guide's Derived/Test/ToyasCard.lean, 'card_holds'). Laid BY PROGRAM, IN A SANDBOX (cutbox-door.mjs). By AI agents, Wed Nov 11 2026. No macro, syntax, notation, axiom, sorry.
-/
import Derived.Test.YthplkompdehjlaaGreatDoorRows
import GoSem.ClaimSeven
namespace Go.Proofs.YthplkompdehjlaaGreatDoor
namespace Rows

/-- THE TIED CARD OF 'lychwaykeep.ExprBack'. -/
def exprBackCard : Claim7 := { stood := { row := exprBackRow, standIns := [], harness := (true, "3b08d60d59fd575a6e7d398268cccd65bf93baf221d128d0d211d8c23d213c07"), looks := true }, kinds := [], alts := [], laidByText := true, laidKinds := [.data, .data, .data, .data, .sentinel, .sentinel, .pinned], laidTests := true, laidLooks := .later }
def ExprBackCardSaid : Prop := Claim7.holds Tryz.pinned (.plain (OpenSpec.ofChange exprBackSpec)) exprBackCard

/-- THE TIED CARD OF 'lychwaykeep.ExprBrackets'. -/
def exprBracketsCard : Claim7 := { stood := { row := exprBracketsRow, standIns := [], harness := (true, "3b08d60d59fd575a6e7d398268cccd65bf93baf221d128d0d211d8c23d213c07"), looks := true }, kinds := [], alts := [], laidByText := true, laidKinds := [.data, .data, .data, .data, .sentinel, .sentinel, .pinned], laidTests := true, laidLooks := .later }
def ExprBracketsCardSaid : Prop := Claim7.holds Tryz.pinned (.plain (OpenSpec.ofChange exprBracketsSpec)) exprBracketsCard

/-- THE TIED CARD OF 'lychwaykeep.ExprOfLine'. -/
def exprOfLineCard : Claim7 := { stood := { row := exprOfLineRow, standIns := [], harness := (true, "3b08d60d59fd575a6e7d398268cccd65bf93baf221d128d0d211d8c23d213c07"), looks := true }, kinds := [], alts := [], laidByText := true, laidKinds := [.data, .data, .data, .data, .sentinel, .sentinel, .pinned], laidTests := true, laidLooks := .later }
def ExprOfLineCardSaid : Prop := Claim7.holds Tryz.pinned (.plain (OpenSpec.ofChange exprOfLineSpec)) exprOfLineCard

/-- THE TIED CARD OF 'lychwaykeep.TextBack'. -/
def textBackCard : Claim7 := { stood := { row := textBackRow, standIns := [], harness := (true, "3b08d60d59fd575a6e7d398268cccd65bf93baf221d128d0d211d8c23d213c07"), looks := true }, kinds := [], alts := [], laidByText := true, laidKinds := [.data, .data, .data, .data, .sentinel, .sentinel, .pinned], laidTests := true, laidLooks := .later }
def TextBackCardSaid : Prop := Claim7.holds Tryz.pinned (.plain (OpenSpec.ofChange textBackSpec)) textBackCard

/-- THE TIED CARD OF 'lychwaykeep.TextTurned'. -/
def textTurnedCard : Claim7 := { stood := { row := textTurnedRow, standIns := [], harness := (true, "3b08d60d59fd575a6e7d398268cccd65bf93baf221d128d0d211d8c23d213c07"), looks := true }, kinds := [], alts := [], laidByText := true, laidKinds := [.data, .data, .data, .data, .sentinel, .sentinel, .pinned], laidTests := true, laidLooks := .later }
def TextTurnedCardSaid : Prop := Claim7.holds Tryz.pinned (.plain (OpenSpec.ofChange textTurnedSpec)) textTurnedCard

/-- THE SECOND FORM's CARD OF 'lychwaykeep.ExprBack'. -/
def exprBackUptoCard : Claim7 := { stood := { row := exprBackUptoRow, standIns := [], harness := (true, "3b08d60d59fd575a6e7d398268cccd65bf93baf221d128d0d211d8c23d213c07"), looks := true }, kinds := [], alts := [], laidByText := true, laidKinds := [.data, .data, .data, .data, .sentinel, .sentinel, .pinned], laidTests := true, laidLooks := .later }
def ExprBackUptoCardSaid : Prop := Claim7.holds Tryz.pinned (.plain (OpenSpec.upto exprBackSpec)) exprBackUptoCard

/-- THE SECOND FORM's CARD OF 'lychwaykeep.ExprBrackets'. -/
def exprBracketsUptoCard : Claim7 := { stood := { row := exprBracketsUptoRow, standIns := [], harness := (true, "3b08d60d59fd575a6e7d398268cccd65bf93baf221d128d0d211d8c23d213c07"), looks := true }, kinds := [], alts := [], laidByText := true, laidKinds := [.data, .data, .data, .data, .sentinel, .sentinel, .pinned], laidTests := true, laidLooks := .later }
def ExprBracketsUptoCardSaid : Prop := Claim7.holds Tryz.pinned (.plain (OpenSpec.upto exprBracketsSpec)) exprBracketsUptoCard

/-- THE SECOND FORM's CARD OF 'lychwaykeep.ExprOfLine'. -/
def exprOfLineUptoCard : Claim7 := { stood := { row := exprOfLineUptoRow, standIns := [], harness := (true, "3b08d60d59fd575a6e7d398268cccd65bf93baf221d128d0d211d8c23d213c07"), looks := true }, kinds := [], alts := [], laidByText := true, laidKinds := [.data, .data, .data, .data, .sentinel, .sentinel, .pinned], laidTests := true, laidLooks := .later }
def ExprOfLineUptoCardSaid : Prop := Claim7.holds Tryz.pinned (.plain (OpenSpec.upto exprOfLineSpec)) exprOfLineUptoCard

/-- THE SECOND FORM's CARD OF 'lychwaykeep.TextBack'. -/
def textBackUptoCard : Claim7 := { stood := { row := textBackUptoRow, standIns := [], harness := (true, "3b08d60d59fd575a6e7d398268cccd65bf93baf221d128d0d211d8c23d213c07"), looks := true }, kinds := [], alts := [], laidByText := true, laidKinds := [.data, .data, .data, .data, .sentinel, .sentinel, .pinned], laidTests := true, laidLooks := .later }
def TextBackUptoCardSaid : Prop := Claim7.holds Tryz.pinned (.plain (OpenSpec.upto textBackSpec)) textBackUptoCard

/-- THE SECOND FORM's CARD OF 'lychwaykeep.TextTurned'. -/
def textTurnedUptoCard : Claim7 := { stood := { row := textTurnedUptoRow, standIns := [], harness := (true, "3b08d60d59fd575a6e7d398268cccd65bf93baf221d128d0d211d8c23d213c07"), looks := true }, kinds := [], alts := [], laidByText := true, laidKinds := [.data, .data, .data, .data, .sentinel, .sentinel, .pinned], laidTests := true, laidLooks := .later }
def TextTurnedUptoCardSaid : Prop := Claim7.holds Tryz.pinned (.plain (OpenSpec.upto textTurnedSpec)) textTurnedUptoCard
end Rows
end Go.Proofs.YthplkompdehjlaaGreatDoor
