/-
  DERIVED. GIVEN WITH THE SEED: THE CARDS: each row of YthpejgmkiomfhaaGreatDoorRows.lean that lists a variable, with what it lists TIED to the program's text (the seventh form; the later family's looks); each row that meets fmt, with fmt's text TOLD by the authors' own Lean function (tested against real Go, not proved from fmt's source: count such statements apart). THE CARD IS WHAT COUNTS. Prove the row's statement (the work); the ties are given (YthpejgmkiomfhaaGreatDoorTie.lean); close each card by the builder's one call (the guide's Derived/Test/ToyasCard.lean, 'card_holds'). Laid BY PROGRAM, IN A SANDBOX (cutbox-door.mjs). By AI agents, Wed Nov 11 2026. No macro, syntax, notation, axiom, sorry.
-/
import Derived.Test.YthpejgmkiomfhaaGreatDoorRows
import GoSem.ClaimSeven
namespace Go.Proofs.YthpejgmkiomfhaaGreatDoor
namespace Rows

/-- THE TIED CARD OF 'bourselaw04.MessageReads'. -/
def messageReadsCard : Claim7 := { stood := { row := messageReadsRow, standIns := [], harness := (true, "c21a21a2df6ab523250091eda813743c38a6748341d79a1e3ccca4f8b302a773"), looks := true }, kinds := [], alts := [], laidByText := true, laidKinds := [.data, .data, .data, .sentinel, .sentinel], laidTests := true, laidLooks := .later }
def MessageReadsCardSaid : Prop := Claim7.holds Tryz.pinned (.plain (OpenSpec.ofChange messageReadsSpec)) messageReadsCard

/-- THE TIED CARD OF 'bourselaw04.MessageBack'. -/
def messageBackCard : Claim7 := { stood := { row := messageBackRow, standIns := [], harness := (true, "c21a21a2df6ab523250091eda813743c38a6748341d79a1e3ccca4f8b302a773"), looks := true }, kinds := [], alts := [], laidByText := true, laidKinds := [.data, .data, .data, .sentinel, .sentinel], laidTests := true, laidLooks := .later }
def MessageBackCardSaid : Prop := Claim7.holds Tryz.pinned (.plain (OpenSpec.ofChange messageBackSpec)) messageBackCard

/-- THE TIED CARD OF 'bourselaw04.MessageOneForm'. -/
def messageOneFormCard : Claim7 := { stood := { row := messageOneFormRow, standIns := [], harness := (true, "c21a21a2df6ab523250091eda813743c38a6748341d79a1e3ccca4f8b302a773"), looks := true }, kinds := [], alts := [], laidByText := true, laidKinds := [.data, .data, .data, .sentinel, .sentinel], laidTests := true, laidLooks := .later }
def MessageOneFormCardSaid : Prop := Claim7.holds Tryz.pinned (.plain (OpenSpec.ofChange messageOneFormSpec)) messageOneFormCard

/-- THE SECOND FORM's CARD OF 'bourselaw04.MessageReads'. -/
def messageReadsUptoCard : Claim7 := { stood := { row := messageReadsUptoRow, standIns := [], harness := (true, "c21a21a2df6ab523250091eda813743c38a6748341d79a1e3ccca4f8b302a773"), looks := true }, kinds := [], alts := [], laidByText := true, laidKinds := [.data, .data, .data, .sentinel, .sentinel], laidTests := true, laidLooks := .later }
def MessageReadsUptoCardSaid : Prop := Claim7.holds Tryz.pinned (.plain (OpenSpec.upto messageReadsSpec)) messageReadsUptoCard

/-- THE SECOND FORM's CARD OF 'bourselaw04.MessageBack'. -/
def messageBackUptoCard : Claim7 := { stood := { row := messageBackUptoRow, standIns := [], harness := (true, "c21a21a2df6ab523250091eda813743c38a6748341d79a1e3ccca4f8b302a773"), looks := true }, kinds := [], alts := [], laidByText := true, laidKinds := [.data, .data, .data, .sentinel, .sentinel], laidTests := true, laidLooks := .later }
def MessageBackUptoCardSaid : Prop := Claim7.holds Tryz.pinned (.plain (OpenSpec.upto messageBackSpec)) messageBackUptoCard

/-- THE SECOND FORM's CARD OF 'bourselaw04.MessageOneForm'. -/
def messageOneFormUptoCard : Claim7 := { stood := { row := messageOneFormUptoRow, standIns := [], harness := (true, "c21a21a2df6ab523250091eda813743c38a6748341d79a1e3ccca4f8b302a773"), looks := true }, kinds := [], alts := [], laidByText := true, laidKinds := [.data, .data, .data, .sentinel, .sentinel], laidTests := true, laidLooks := .later }
def MessageOneFormUptoCardSaid : Prop := Claim7.holds Tryz.pinned (.plain (OpenSpec.upto messageOneFormSpec)) messageOneFormUptoCard
end Rows
end Go.Proofs.YthpejgmkiomfhaaGreatDoor
