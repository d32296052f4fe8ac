/-
  No cell of these rows narrows 'for every input' (looked for: loops, veiled, ifaces, maps, wideKeys, modest, calm, conditions, laid).
  DERIVED. THE GIVEN ROWS OF THIS SEAT. 3 by the template 'for every input the law returns true; each argument reads behind the call as it read before'; 0 by the template 'total and deterministic' (their statements: YtdfleghechbcpaaTotals.lean).
  GIVEN WITH THE SEED: the statements are not yours to turn. If you find one false, say at which input.
  Laid BY PROGRAM, IN A SANDBOX (cutbox-rows.mjs): the forced cells as the released guide's own fill.sh prints them over the translation 1473c69088fb70a7… (all of the seat's roots in one cut). By AI agents, Wed Nov 11 2026. No macro, syntax, notation, axiom, sorry.
-/
import Derived.Test.YtdfleghechbcpaaChecked
import GoSem.Claim
import GoSem.ClaimJoined
import GoSem.ClaimMapViews
import Derived.JoinedTies
import Derived.KernelRfl
namespace Go.Proofs.Ytdfleghechbcpaa
/- THE CELL 'sum', in the pinned program and in every row, IS THE sha256 OF THE DUMP (.gsa) THAT YtdfleghechbcpaaProg.lean LOADS. Nothing in Lean hashes anything: it is a label: what it is worth is what the hold of that sum in a sandbox is worth. -/
noncomputable def Try.pinned : Pinned := { name := "ytdfleghechbcpaa", sum := "1473c69088fb70a79b13f99118f9ea12c3402b75f85cb337cbe1a51fdb961a27", checked := Try.checked }
namespace Rows
def none {H : Type} : Left H := { results := [], args := [] }

/-- 'bourselaw04.MessagePacks': WHATEVER THE INPUT: true; the input reads as it did. -/
def messagePacksSpec : ChangeSpec := { name := "messagePacks", fn := fun _ => fun
  | [d] => { results := [.lit (.bool true)], args := [d] }
  | _ => none }
def messagePacksRow : OpenClaim := { program := "ytdfleghechbcpaa", sum := "1473c69088fb70a79b13f99118f9ea12c3402b75f85cb337cbe1a51fdb961a27", func := "bourse/bourselaw04.MessagePacks", spec := "messagePacks", apart := false }
def MessagePacksSaid : Prop := messagePacksRow.holds Try.pinned (OpenSpec.ofChange messagePacksSpec)

/-- ITS FALSE NEIGHBOUR: 'it returns false'. Refute it at one input. -/
def messagePacksWrong : ChangeSpec := { name := "messagePacks", fn := fun _ => fun
  | [d] => { results := [.lit (.bool false)], args := [d] }
  | _ => none }
def MessagePacksWrongFalsely : Prop := messagePacksRow.holds Try.pinned (OpenSpec.ofChange messagePacksWrong)

/-- 'bourselaw04.MessageEvents': WHATEVER THE INPUT: true; the input reads as it did. -/
def messageEventsSpec : ChangeSpec := { name := "messageEvents", fn := fun _ => fun
  | [d1, d2] => { results := [.lit (.bool true)], args := [d1, d2] }
  | _ => none }
def messageEventsRow : OpenClaim := { program := "ytdfleghechbcpaa", sum := "1473c69088fb70a79b13f99118f9ea12c3402b75f85cb337cbe1a51fdb961a27", func := "bourse/bourselaw04.MessageEvents", spec := "messageEvents", apart := false }
def MessageEventsSaid : Prop := messageEventsRow.holds Try.pinned (OpenSpec.ofChange messageEventsSpec)

/-- ITS FALSE NEIGHBOUR: 'it returns false'. Refute it at one input. -/
def messageEventsWrong : ChangeSpec := { name := "messageEvents", fn := fun _ => fun
  | [d1, d2] => { results := [.lit (.bool false)], args := [d1, d2] }
  | _ => none }
def MessageEventsWrongFalsely : Prop := messageEventsRow.holds Try.pinned (OpenSpec.ofChange messageEventsWrong)

/-- 'bourselaw04.MessageUnpacks': WHATEVER THE INPUT: true; the input reads as it did. -/
def messageUnpacksSpec : ChangeSpec := { name := "messageUnpacks", fn := fun _ => fun
  | [d] => { results := [.lit (.bool true)], args := [d] }
  | _ => none }
def messageUnpacksRow : OpenClaim := { program := "ytdfleghechbcpaa", sum := "1473c69088fb70a79b13f99118f9ea12c3402b75f85cb337cbe1a51fdb961a27", func := "bourse/bourselaw04.MessageUnpacks", spec := "messageUnpacks", apart := false }
def MessageUnpacksSaid : Prop := messageUnpacksRow.holds Try.pinned (OpenSpec.ofChange messageUnpacksSpec)

/-- ITS FALSE NEIGHBOUR: 'it returns false'. Refute it at one input. -/
def messageUnpacksWrong : ChangeSpec := { name := "messageUnpacks", fn := fun _ => fun
  | [d] => { results := [.lit (.bool false)], args := [d] }
  | _ => none }
def MessageUnpacksWrongFalsely : Prop := messageUnpacksRow.holds Try.pinned (OpenSpec.ofChange messageUnpacksWrong)

/- THE SECOND FORM. 'bulk': how many values and letters a reading holds, each counted each time it is reached (what is shared counts as often as it is met; a slice's spare places count too). A statement '..UptoSaid' is the law's where the arguments, and the package variables that the reading takes, are together of bulk at most 1048576: NARROWER than '..Said'. Prove '..Said' where nothing that the law and all that it calls make is longer than what came in: it says more and counts as full. Else prove '..UptoSaid'. A law counts once. -/
mutual
def uptoBulk {H : Type} : DataW H → Nat
  | .lit (.string bytes) => bytes.length + 1
  | .lit _ => 1
  | .nil => 1
  | .ptr d => uptoBulk d + 1
  | .slice elems spare => uptoBulkAll elems + uptoBulkAll spare + 1
  | .agg parts => uptoBulkAll parts + 1
  | .iface _ d => uptoBulk d + 1
  | .map entries => uptoBulkEntries entries + 1
  | .held _ => 1
def uptoBulkAll {H : Type} : List (DataW H) → Nat
  | [] => 0
  | d :: r => uptoBulk d + uptoBulkAll r
def uptoBulkEntries {H : Type} : List (Lit × DataW H) → Nat
  | [] => 0
  | x :: r => uptoBulkEntry x + uptoBulkEntries r
def uptoBulkEntry {H : Type} : Lit × DataW H → Nat
  | (.string bytes, d) => bytes.length + uptoBulk d + 1
  | (_, d) => uptoBulk d + 1
 end
def uptoSmall : (H : Type) → List (DataW H) → Bool := fun _ ds => decide (uptoBulkAll ds ≤ 1048576)
def OpenSpec.upto (s : _root_.Go.ChangeSpec) : _root_.Go.OpenSpec := { _root_.Go.OpenSpec.ofChange s with cond := some uptoSmall }

/-- 'bourselaw04.MessagePacks', WHERE WHAT IT READS IS OF BULK AT MOST 1048576: true; the input reads as it did. -/
def messagePacksUptoRow : OpenClaim := { program := "ytdfleghechbcpaa", sum := "1473c69088fb70a79b13f99118f9ea12c3402b75f85cb337cbe1a51fdb961a27", func := "bourse/bourselaw04.MessagePacks", spec := "messagePacks", apart := false, narrowed := true }
def MessagePacksUptoSaid : Prop := messagePacksUptoRow.holds Try.pinned (OpenSpec.upto messagePacksSpec)

/-- 'bourselaw04.MessageEvents', WHERE WHAT IT READS IS OF BULK AT MOST 1048576: true; the input reads as it did. -/
def messageEventsUptoRow : OpenClaim := { program := "ytdfleghechbcpaa", sum := "1473c69088fb70a79b13f99118f9ea12c3402b75f85cb337cbe1a51fdb961a27", func := "bourse/bourselaw04.MessageEvents", spec := "messageEvents", apart := false, narrowed := true }
def MessageEventsUptoSaid : Prop := messageEventsUptoRow.holds Try.pinned (OpenSpec.upto messageEventsSpec)

/-- 'bourselaw04.MessageUnpacks', WHERE WHAT IT READS IS OF BULK AT MOST 1048576: true; the input reads as it did. -/
def messageUnpacksUptoRow : OpenClaim := { program := "ytdfleghechbcpaa", sum := "1473c69088fb70a79b13f99118f9ea12c3402b75f85cb337cbe1a51fdb961a27", func := "bourse/bourselaw04.MessageUnpacks", spec := "messageUnpacks", apart := false, narrowed := true }
def MessageUnpacksUptoSaid : Prop := messageUnpacksUptoRow.holds Try.pinned (OpenSpec.upto messageUnpacksSpec)

end Rows
end Go.Proofs.Ytdfleghechbcpaa
