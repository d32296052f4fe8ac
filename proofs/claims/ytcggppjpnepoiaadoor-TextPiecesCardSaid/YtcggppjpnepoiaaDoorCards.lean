/-
  DERIVED. GIVEN WITH THE SEED: THE CARDS: each row of YtcggppjpnepoiaaDoorRows.lean that lists a variable, with what it lists TIED to the program's text (the seventh form; the later family's looks); each row that meets fmt, with fmt's text TOLD by the authors' own Lean function (tested against real Go, not proved from fmt's source: count such statements apart). THE CARD IS WHAT COUNTS. Prove the row's statement (the work); the ties are given (YtcggppjpnepoiaaDoorTie.lean); close each card by the builder's one call (the guide's Derived/Test/ToyasCard.lean, 'card_holds'). Laid BY PROGRAM, IN A SANDBOX (cutbox-door.mjs). By AI agents, Wed Nov 11 2026. No macro, syntax, notation, axiom, sorry.
-/
import Derived.Test.YtcggppjpnepoiaaDoorRows
import GoSem.ClaimSeven
namespace Go.Proofs.YtcggppjpnepoiaaDoor
namespace Rows

/-- THE TIED CARD OF 'bourselaw03.TextValues'. -/
def textValuesCard : Claim7 := { stood := { row := textValuesRow, standIns := [], harness := (true, "59f3d88583fead5222f396fefe64da747740ccdb0e75401cfe1952b3cb65e83c"), looks := true }, kinds := [], alts := [], laidByText := true, laidKinds := [.data, .data, .data, .sentinel, .sentinel], laidTests := true, laidLooks := .later }
def TextValuesCardSaid : Prop := Claim7.holds Tryd.pinned (.plain (OpenSpec.ofChange textValuesSpec)) textValuesCard

/-- THE TIED CARD OF 'bourselaw03.TextDecimals'. -/
def textDecimalsCard : Claim7 := { stood := { row := textDecimalsRow, standIns := [], harness := (true, "59f3d88583fead5222f396fefe64da747740ccdb0e75401cfe1952b3cb65e83c"), looks := true }, kinds := [], alts := [], laidByText := true, laidKinds := [.data, .data, .data, .sentinel, .sentinel], laidTests := true, laidLooks := .later }
def TextDecimalsCardSaid : Prop := Claim7.holds Tryd.pinned (.plain (OpenSpec.ofChange textDecimalsSpec)) textDecimalsCard

/-- THE TIED CARD OF 'bourselaw03.TextDecodes'. -/
def textDecodesCard : Claim7 := { stood := { row := textDecodesRow, standIns := [], harness := (true, "59f3d88583fead5222f396fefe64da747740ccdb0e75401cfe1952b3cb65e83c"), looks := true }, kinds := [], alts := [], laidByText := true, laidKinds := [.data, .data, .data, .sentinel, .sentinel], laidTests := true, laidLooks := .later }
def TextDecodesCardSaid : Prop := Claim7.holds Tryd.pinned (.plain (OpenSpec.ofChange textDecodesSpec)) textDecodesCard

/-- THE TIED CARD OF 'bourselaw03.TextBack'. -/
def textBackCard : Claim7 := { stood := { row := textBackRow, standIns := [], harness := (true, "59f3d88583fead5222f396fefe64da747740ccdb0e75401cfe1952b3cb65e83c"), looks := true }, kinds := [], alts := [], laidByText := true, laidKinds := [.data, .data, .data, .sentinel, .sentinel], laidTests := true, laidLooks := .later }
def TextBackCardSaid : Prop := Claim7.holds Tryd.pinned (.plain (OpenSpec.ofChange textBackSpec)) textBackCard

/-- THE TIED CARD OF 'bourselaw03.TextSpoilt'. -/
def textSpoiltCard : Claim7 := { stood := { row := textSpoiltRow, standIns := [], harness := (true, "59f3d88583fead5222f396fefe64da747740ccdb0e75401cfe1952b3cb65e83c"), looks := true }, kinds := [], alts := [], laidByText := true, laidKinds := [.data, .data, .data, .sentinel, .sentinel], laidTests := true, laidLooks := .later }
def TextSpoiltCardSaid : Prop := Claim7.holds Tryd.pinned (.plain (OpenSpec.ofChange textSpoiltSpec)) textSpoiltCard

/-- THE TIED CARD OF 'bourselaw03.TextReaders'. -/
def textReadersCard : Claim7 := { stood := { row := textReadersRow, standIns := [], harness := (true, "59f3d88583fead5222f396fefe64da747740ccdb0e75401cfe1952b3cb65e83c"), looks := true }, kinds := [], alts := [], laidByText := true, laidKinds := [.data, .data, .data, .sentinel, .sentinel], laidTests := true, laidLooks := .later }
def TextReadersCardSaid : Prop := Claim7.holds Tryd.pinned (.plain (OpenSpec.ofChange textReadersSpec)) textReadersCard

/-- THE TIED CARD OF 'bourselaw03.TextPieces'. -/
def textPiecesCard : Claim7 := { stood := { row := textPiecesRow, standIns := [], harness := (true, "59f3d88583fead5222f396fefe64da747740ccdb0e75401cfe1952b3cb65e83c"), looks := true }, kinds := [], alts := [], laidByText := true, laidKinds := [.data, .data, .data, .sentinel, .sentinel], laidTests := true, laidLooks := .later }
def TextPiecesCardSaid : Prop := Claim7.holds Tryd.pinned (.plain (OpenSpec.ofChange textPiecesSpec)) textPiecesCard

/-- THE SECOND FORM's CARD OF 'bourselaw03.TextValues'. -/
def textValuesUptoCard : Claim7 := { stood := { row := textValuesUptoRow, standIns := [], harness := (true, "59f3d88583fead5222f396fefe64da747740ccdb0e75401cfe1952b3cb65e83c"), looks := true }, kinds := [], alts := [], laidByText := true, laidKinds := [.data, .data, .data, .sentinel, .sentinel], laidTests := true, laidLooks := .later }
def TextValuesUptoCardSaid : Prop := Claim7.holds Tryd.pinned (.plain (OpenSpec.upto textValuesSpec)) textValuesUptoCard

/-- THE SECOND FORM's CARD OF 'bourselaw03.TextDecimals'. -/
def textDecimalsUptoCard : Claim7 := { stood := { row := textDecimalsUptoRow, standIns := [], harness := (true, "59f3d88583fead5222f396fefe64da747740ccdb0e75401cfe1952b3cb65e83c"), looks := true }, kinds := [], alts := [], laidByText := true, laidKinds := [.data, .data, .data, .sentinel, .sentinel], laidTests := true, laidLooks := .later }
def TextDecimalsUptoCardSaid : Prop := Claim7.holds Tryd.pinned (.plain (OpenSpec.upto textDecimalsSpec)) textDecimalsUptoCard

/-- THE SECOND FORM's CARD OF 'bourselaw03.TextDecodes'. -/
def textDecodesUptoCard : Claim7 := { stood := { row := textDecodesUptoRow, standIns := [], harness := (true, "59f3d88583fead5222f396fefe64da747740ccdb0e75401cfe1952b3cb65e83c"), looks := true }, kinds := [], alts := [], laidByText := true, laidKinds := [.data, .data, .data, .sentinel, .sentinel], laidTests := true, laidLooks := .later }
def TextDecodesUptoCardSaid : Prop := Claim7.holds Tryd.pinned (.plain (OpenSpec.upto textDecodesSpec)) textDecodesUptoCard

/-- THE SECOND FORM's CARD OF 'bourselaw03.TextBack'. -/
def textBackUptoCard : Claim7 := { stood := { row := textBackUptoRow, standIns := [], harness := (true, "59f3d88583fead5222f396fefe64da747740ccdb0e75401cfe1952b3cb65e83c"), looks := true }, kinds := [], alts := [], laidByText := true, laidKinds := [.data, .data, .data, .sentinel, .sentinel], laidTests := true, laidLooks := .later }
def TextBackUptoCardSaid : Prop := Claim7.holds Tryd.pinned (.plain (OpenSpec.upto textBackSpec)) textBackUptoCard

/-- THE SECOND FORM's CARD OF 'bourselaw03.TextSpoilt'. -/
def textSpoiltUptoCard : Claim7 := { stood := { row := textSpoiltUptoRow, standIns := [], harness := (true, "59f3d88583fead5222f396fefe64da747740ccdb0e75401cfe1952b3cb65e83c"), looks := true }, kinds := [], alts := [], laidByText := true, laidKinds := [.data, .data, .data, .sentinel, .sentinel], laidTests := true, laidLooks := .later }
def TextSpoiltUptoCardSaid : Prop := Claim7.holds Tryd.pinned (.plain (OpenSpec.upto textSpoiltSpec)) textSpoiltUptoCard

/-- THE SECOND FORM's CARD OF 'bourselaw03.TextReaders'. -/
def textReadersUptoCard : Claim7 := { stood := { row := textReadersUptoRow, standIns := [], harness := (true, "59f3d88583fead5222f396fefe64da747740ccdb0e75401cfe1952b3cb65e83c"), looks := true }, kinds := [], alts := [], laidByText := true, laidKinds := [.data, .data, .data, .sentinel, .sentinel], laidTests := true, laidLooks := .later }
def TextReadersUptoCardSaid : Prop := Claim7.holds Tryd.pinned (.plain (OpenSpec.upto textReadersSpec)) textReadersUptoCard

/-- THE SECOND FORM's CARD OF 'bourselaw03.TextPieces'. -/
def textPiecesUptoCard : Claim7 := { stood := { row := textPiecesUptoRow, standIns := [], harness := (true, "59f3d88583fead5222f396fefe64da747740ccdb0e75401cfe1952b3cb65e83c"), looks := true }, kinds := [], alts := [], laidByText := true, laidKinds := [.data, .data, .data, .sentinel, .sentinel], laidTests := true, laidLooks := .later }
def TextPiecesUptoCardSaid : Prop := Claim7.holds Tryd.pinned (.plain (OpenSpec.upto textPiecesSpec)) textPiecesUptoCard
end Rows
end Go.Proofs.YtcggppjpnepoiaaDoor
