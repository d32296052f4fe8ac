/-
  DERIVED. GIVEN WITH THE SEED: THE CARDS: each row of YthpejgmkiomfhaaDoorRows.lean that lists a variable, with what it lists TIED to the program's text (the seventh form; the later family's looks); each row that meets fmt, with fmt's text TOLD by the authors' own Lean function (tested against real Go, not proved from fmt's source: count such statements apart). THE CARD IS WHAT COUNTS. Prove the row's statement (the work); the ties are given (YthpejgmkiomfhaaDoorTie.lean); close each card by the builder's one call (the guide's Derived/Test/ToyasCard.lean, 'card_holds'). Laid BY PROGRAM, IN A SANDBOX (cutbox-door.mjs). By AI agents, Wed Nov 11 2026. No macro, syntax, notation, axiom, sorry.
-/
import Derived.Test.YthpejgmkiomfhaaDoorRows
import GoSem.ClaimSeven
namespace Go.Proofs.YthpejgmkiomfhaaDoor
namespace Rows

/-- THE TIED CARD OF 'bourselaw04.MessageLines'. -/
def messageLinesCard : Claim7 := { stood := { row := messageLinesRow, standIns := [], harness := (true, "f9aa139d6d6434f036f32982c282477478b81b9943e5f45d3e9d4107a00363c1"), looks := true }, kinds := [], alts := [], laidByText := true, laidKinds := [.data, .data, .data], laidTests := true, laidLooks := .later }
def MessageLinesCardSaid : Prop := Claim7.holds Tryd.pinned (.plain (OpenSpec.ofChange messageLinesSpec)) messageLinesCard

/-- THE TIED CARD OF 'bourselaw04.MessageEdges'. -/
def messageEdgesCard : Claim7 := { stood := { row := messageEdgesRow, standIns := [], harness := (true, "f9aa139d6d6434f036f32982c282477478b81b9943e5f45d3e9d4107a00363c1"), looks := true }, kinds := [], alts := [], laidByText := true, laidKinds := [.data, .data, .data, .sentinel, .sentinel], laidTests := true, laidLooks := .later }
def MessageEdgesCardSaid : Prop := Claim7.holds Tryd.pinned (.plain (OpenSpec.ofChange messageEdgesSpec)) messageEdgesCard

/-- THE TIED CARD OF 'bourselaw04.MessageBytes'. -/
def messageBytesCard : Claim7 := { stood := { row := messageBytesRow, standIns := [], harness := (true, "f9aa139d6d6434f036f32982c282477478b81b9943e5f45d3e9d4107a00363c1"), looks := true }, kinds := [], alts := [], laidByText := true, laidKinds := [.data, .data, .data, .sentinel, .sentinel], laidTests := true, laidLooks := .later }
def MessageBytesCardSaid : Prop := Claim7.holds Tryd.pinned (.plain (OpenSpec.ofChange messageBytesSpec)) messageBytesCard

/-- THE SECOND FORM's CARD OF 'bourselaw04.MessageLines'. -/
def messageLinesUptoCard : Claim7 := { stood := { row := messageLinesUptoRow, standIns := [], harness := (true, "f9aa139d6d6434f036f32982c282477478b81b9943e5f45d3e9d4107a00363c1"), looks := true }, kinds := [], alts := [], laidByText := true, laidKinds := [.data, .data, .data], laidTests := true, laidLooks := .later }
def MessageLinesUptoCardSaid : Prop := Claim7.holds Tryd.pinned (.plain (OpenSpec.upto messageLinesSpec)) messageLinesUptoCard

/-- THE SECOND FORM's CARD OF 'bourselaw04.MessageEdges'. -/
def messageEdgesUptoCard : Claim7 := { stood := { row := messageEdgesUptoRow, standIns := [], harness := (true, "f9aa139d6d6434f036f32982c282477478b81b9943e5f45d3e9d4107a00363c1"), looks := true }, kinds := [], alts := [], laidByText := true, laidKinds := [.data, .data, .data, .sentinel, .sentinel], laidTests := true, laidLooks := .later }
def MessageEdgesUptoCardSaid : Prop := Claim7.holds Tryd.pinned (.plain (OpenSpec.upto messageEdgesSpec)) messageEdgesUptoCard

/-- THE SECOND FORM's CARD OF 'bourselaw04.MessageBytes'. -/
def messageBytesUptoCard : Claim7 := { stood := { row := messageBytesUptoRow, standIns := [], harness := (true, "f9aa139d6d6434f036f32982c282477478b81b9943e5f45d3e9d4107a00363c1"), looks := true }, kinds := [], alts := [], laidByText := true, laidKinds := [.data, .data, .data, .sentinel, .sentinel], laidTests := true, laidLooks := .later }
def MessageBytesUptoCardSaid : Prop := Claim7.holds Tryd.pinned (.plain (OpenSpec.upto messageBytesSpec)) messageBytesUptoCard
end Rows
end Go.Proofs.YthpejgmkiomfhaaDoor
