/-
  DERIVED. GIVEN WITH THE SEED: THE CARDS: each row of YtonoamdonmbkpaaDoorRows.lean that lists a variable, with what it lists TIED to the program's text (the seventh form; the later family's looks); each row that meets fmt, with fmt's text TOLD by the authors' own Lean function (tested against real Go, not proved from fmt's source: count such statements apart). THE CARD IS WHAT COUNTS. Prove the row's statement (the work); the ties are given (YtonoamdonmbkpaaDoorTie.lean); close each card by the builder's one call (the guide's Derived/Test/ToyasCard.lean, 'card_holds'). Laid BY PROGRAM, IN A SANDBOX (cutbox-door.mjs). By AI agents, Wed Nov 11 2026. No macro, syntax, notation, axiom, sorry.
-/
import Derived.Test.YtonoamdonmbkpaaDoorRows
import GoSem.ClaimSeven
namespace Go.Proofs.YtonoamdonmbkpaaDoor
namespace Rows

/-- THE TIED CARD OF 'bourselaw27.ConsoleReads'. -/
def consoleReadsCard : Claim7 := { stood := { row := consoleReadsRow, standIns := [], harness := (true, "849e7fb4bc606b1e89a0b4796708126e0819b6d5b2b190112be0be970ca1fd2b"), looks := true }, kinds := [], alts := [], laidByText := true, laidKinds := [.data, .data, .data, .sentinel, .sentinel], laidTests := true, laidLooks := .later }
def ConsoleReadsCardSaid : Prop := Claim7.holds Tryd.pinned (.plain (OpenSpec.ofChange consoleReadsSpec)) consoleReadsCard

/-- THE TIED CARD OF 'bourselaw27.ConsoleForms'. -/
def consoleFormsCard : Claim7 := { stood := { row := consoleFormsRow, standIns := [], harness := (true, "849e7fb4bc606b1e89a0b4796708126e0819b6d5b2b190112be0be970ca1fd2b"), looks := true }, kinds := [], alts := [], laidByText := true, laidKinds := [.data, .data, .data, .sentinel, .sentinel], laidTests := true, laidLooks := .later }
def ConsoleFormsCardSaid : Prop := Claim7.holds Tryd.pinned (.plain (OpenSpec.ofChange consoleFormsSpec)) consoleFormsCard

/-- THE SECOND FORM's CARD OF 'bourselaw27.ConsoleReads'. -/
def consoleReadsUptoCard : Claim7 := { stood := { row := consoleReadsUptoRow, standIns := [], harness := (true, "849e7fb4bc606b1e89a0b4796708126e0819b6d5b2b190112be0be970ca1fd2b"), looks := true }, kinds := [], alts := [], laidByText := true, laidKinds := [.data, .data, .data, .sentinel, .sentinel], laidTests := true, laidLooks := .later }
def ConsoleReadsUptoCardSaid : Prop := Claim7.holds Tryd.pinned (.plain (OpenSpec.upto consoleReadsSpec)) consoleReadsUptoCard

/-- THE SECOND FORM's CARD OF 'bourselaw27.ConsoleForms'. -/
def consoleFormsUptoCard : Claim7 := { stood := { row := consoleFormsUptoRow, standIns := [], harness := (true, "849e7fb4bc606b1e89a0b4796708126e0819b6d5b2b190112be0be970ca1fd2b"), looks := true }, kinds := [], alts := [], laidByText := true, laidKinds := [.data, .data, .data, .sentinel, .sentinel], laidTests := true, laidLooks := .later }
def ConsoleFormsUptoCardSaid : Prop := Claim7.holds Tryd.pinned (.plain (OpenSpec.upto consoleFormsSpec)) consoleFormsUptoCard
end Rows
end Go.Proofs.YtonoamdonmbkpaaDoor
