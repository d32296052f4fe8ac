/-
  No cell of these rows narrows 'for every input' (looked for: loops, veiled, ifaces, maps, wideKeys, modest, calm, conditions, laid).
  DERIVED. THE GIVEN ROWS OF THIS SEAT. 2 by the template 'for every input the law returns true; each argument reads behind the call as it read before'; 0 by the template 'total and deterministic' (their statements: YtonoamdonmbkpaaTotals.lean).
  GIVEN WITH THE SEED: the statements are not yours to turn. If you find one false, say at which input.
  Laid BY PROGRAM, IN A SANDBOX (cutbox-rows.mjs): the forced cells as the released guide's own fill.sh prints them over the translation 75478eecdc7663e0… (all of the seat's roots in one cut). By AI agents, Wed Nov 11 2026. No macro, syntax, notation, axiom, sorry.
-/
import Derived.Test.YtonoamdonmbkpaaChecked
import GoSem.Claim
import GoSem.ClaimJoined
import GoSem.ClaimMapViews
import Derived.JoinedTies
import Derived.KernelRfl
namespace Go.Proofs.Ytonoamdonmbkpaa
/- THE CELL 'sum', in the pinned program and in every row, IS THE sha256 OF THE DUMP (.gsa) THAT YtonoamdonmbkpaaProg.lean LOADS. Nothing in Lean hashes anything: it is a label: what it is worth is what the hold of that sum in a sandbox is worth. -/
noncomputable def Try.pinned : Pinned := { name := "ytonoamdonmbkpaa", sum := "75478eecdc7663e046a240ebc00e54879a59022bceb8caac787d98b95bcb0a88", checked := Try.checked }
namespace Rows
def none {H : Type} : Left H := { results := [], args := [] }

/-- 'bourselaw27.ConsoleBars': WHATEVER THE INPUT: true; the input reads as it did. -/
def consoleBarsSpec : ChangeSpec := { name := "consoleBars", fn := fun _ => fun
  | [d1, d2, d3] => { results := [.lit (.bool true)], args := [d1, d2, d3] }
  | _ => none }
def consoleBarsRow : OpenClaim := { program := "ytonoamdonmbkpaa", sum := "75478eecdc7663e046a240ebc00e54879a59022bceb8caac787d98b95bcb0a88", func := "bourse/bourselaw27.ConsoleBars", spec := "consoleBars", inPlace := ["math/bits.Add64", "math/bits.Sub64"], apart := false }
def ConsoleBarsSaid : Prop := consoleBarsRow.holds Try.pinned (OpenSpec.ofChange consoleBarsSpec)

/-- ITS FALSE NEIGHBOUR: 'it returns false'. Refute it at one input. -/
def consoleBarsWrong : ChangeSpec := { name := "consoleBars", fn := fun _ => fun
  | [d1, d2, d3] => { results := [.lit (.bool false)], args := [d1, d2, d3] }
  | _ => none }
def ConsoleBarsWrongFalsely : Prop := consoleBarsRow.holds Try.pinned (OpenSpec.ofChange consoleBarsWrong)

/-- 'bourselaw27.ConsoleStats': WHATEVER THE INPUT: true; the input reads as it did. -/
def consoleStatsSpec : ChangeSpec := { name := "consoleStats", fn := fun _ => fun
  | [d1, d2] => { results := [.lit (.bool true)], args := [d1, d2] }
  | _ => none }
def consoleStatsRow : OpenClaim := { program := "ytonoamdonmbkpaa", sum := "75478eecdc7663e046a240ebc00e54879a59022bceb8caac787d98b95bcb0a88", func := "bourse/bourselaw27.ConsoleStats", spec := "consoleStats", inPlace := ["math/bits.Add64", "math/bits.Sub64", "internal/abi.NoEscape"], named := ["math/bits.divideError", "math/bits.overflowError"], apart := false }
def ConsoleStatsSaid : Prop := consoleStatsRow.holds Try.pinned (OpenSpec.ofChange consoleStatsSpec)

/-- ITS FALSE NEIGHBOUR: 'it returns false'. Refute it at one input. -/
def consoleStatsWrong : ChangeSpec := { name := "consoleStats", fn := fun _ => fun
  | [d1, d2] => { results := [.lit (.bool false)], args := [d1, d2] }
  | _ => none }
def ConsoleStatsWrongFalsely : Prop := consoleStatsRow.holds Try.pinned (OpenSpec.ofChange consoleStatsWrong)

/- THE SECOND FORM. 'bulk': how many values and letters a reading holds, each counted each time it is reached (what is shared counts as often as it is met; a slice's spare places count too). A statement '..UptoSaid' is the law's where the arguments, and the package variables that the reading takes, are together of bulk at most 1048576: NARROWER than '..Said'. Prove '..Said' where nothing that the law and all that it calls make is longer than what came in: it says more and counts as full. Else prove '..UptoSaid'. A law counts once. -/
mutual
def uptoBulk {H : Type} : DataW H → Nat
  | .lit (.string bytes) => bytes.length + 1
  | .lit _ => 1
  | .nil => 1
  | .ptr d => uptoBulk d + 1
  | .slice elems spare => uptoBulkAll elems + uptoBulkAll spare + 1
  | .agg parts => uptoBulkAll parts + 1
  | .iface _ d => uptoBulk d + 1
  | .map entries => uptoBulkEntries entries + 1
  | .held _ => 1
def uptoBulkAll {H : Type} : List (DataW H) → Nat
  | [] => 0
  | d :: r => uptoBulk d + uptoBulkAll r
def uptoBulkEntries {H : Type} : List (Lit × DataW H) → Nat
  | [] => 0
  | x :: r => uptoBulkEntry x + uptoBulkEntries r
def uptoBulkEntry {H : Type} : Lit × DataW H → Nat
  | (.string bytes, d) => bytes.length + uptoBulk d + 1
  | (_, d) => uptoBulk d + 1
 end
def uptoSmall : (H : Type) → List (DataW H) → Bool := fun _ ds => decide (uptoBulkAll ds ≤ 1048576)
def OpenSpec.upto (s : _root_.Go.ChangeSpec) : _root_.Go.OpenSpec := { _root_.Go.OpenSpec.ofChange s with cond := some uptoSmall }

/-- 'bourselaw27.ConsoleBars', WHERE WHAT IT READS IS OF BULK AT MOST 1048576: true; the input reads as it did. -/
def consoleBarsUptoRow : OpenClaim := { program := "ytonoamdonmbkpaa", sum := "75478eecdc7663e046a240ebc00e54879a59022bceb8caac787d98b95bcb0a88", func := "bourse/bourselaw27.ConsoleBars", spec := "consoleBars", inPlace := ["math/bits.Add64", "math/bits.Sub64"], apart := false, narrowed := true }
def ConsoleBarsUptoSaid : Prop := consoleBarsUptoRow.holds Try.pinned (OpenSpec.upto consoleBarsSpec)

/-- 'bourselaw27.ConsoleStats', WHERE WHAT IT READS IS OF BULK AT MOST 1048576: true; the input reads as it did. -/
def consoleStatsUptoRow : OpenClaim := { program := "ytonoamdonmbkpaa", sum := "75478eecdc7663e046a240ebc00e54879a59022bceb8caac787d98b95bcb0a88", func := "bourse/bourselaw27.ConsoleStats", spec := "consoleStats", inPlace := ["math/bits.Add64", "math/bits.Sub64", "internal/abi.NoEscape"], named := ["math/bits.divideError", "math/bits.overflowError"], apart := false, narrowed := true }
def ConsoleStatsUptoSaid : Prop := consoleStatsUptoRow.holds Try.pinned (OpenSpec.upto consoleStatsSpec)

end Rows
end Go.Proofs.Ytonoamdonmbkpaa
