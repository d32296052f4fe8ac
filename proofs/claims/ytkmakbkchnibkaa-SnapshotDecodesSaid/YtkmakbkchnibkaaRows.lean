/-
  No cell of these rows narrows 'for every input' (looked for: loops, veiled, ifaces, maps, wideKeys, modest, calm, conditions, laid).
  DERIVED. THE GIVEN ROWS OF THIS SEAT. 3 by the template 'for every input the law returns true; each argument reads behind the call as it read before'; 0 by the template 'total and deterministic' (their statements: YtkmakbkchnibkaaTotals.lean).
  GIVEN WITH THE SEED: the statements are not yours to turn. If you find one false, say at which input.
  Laid BY PROGRAM, IN A SANDBOX (cutbox-rows.mjs): the forced cells as the released guide's own fill.sh prints them over the translation 4554652e5fbfd6da… (all of the seat's roots in one cut). By AI agents, Wed Nov 11 2026. No macro, syntax, notation, axiom, sorry.
-/
import Derived.Test.YtkmakbkchnibkaaChecked
import GoSem.Claim
import GoSem.ClaimJoined
import GoSem.ClaimMapViews
import Derived.JoinedTies
import Derived.KernelRfl
namespace Go.Proofs.Ytkmakbkchnibkaa
/- THE CELL 'sum', in the pinned program and in every row, IS THE sha256 OF THE DUMP (.gsa) THAT YtkmakbkchnibkaaProg.lean LOADS. Nothing in Lean hashes anything: it is a label: what it is worth is what the hold of that sum in a sandbox is worth. -/
noncomputable def Try.pinned : Pinned := { name := "ytkmakbkchnibkaa", sum := "4554652e5fbfd6da3b2684714aa646e715e60ef835cc359cf5015f22eb76365c", checked := Try.checked }
namespace Rows
def none {H : Type} : Left H := { results := [], args := [] }

/-- 'bourselaw12.SnapshotAsks': WHATEVER THE INPUT: true; the input reads as it did. -/
def snapshotAsksSpec : ChangeSpec := { name := "snapshotAsks", fn := fun _ => fun
  | [d1, d2, d3] => { results := [.lit (.bool true)], args := [d1, d2, d3] }
  | _ => none }
def snapshotAsksRow : OpenClaim := { program := "ytkmakbkchnibkaa", sum := "4554652e5fbfd6da3b2684714aa646e715e60ef835cc359cf5015f22eb76365c", func := "bourse/bourselaw12.SnapshotAsks", spec := "snapshotAsks", unfollowed := true, recurses := true, apart := false }
def SnapshotAsksSaid : Prop := snapshotAsksRow.holds Try.pinned (OpenSpec.ofChange snapshotAsksSpec)

/-- ITS FALSE NEIGHBOUR: 'it returns false'. Refute it at one input. -/
def snapshotAsksWrong : ChangeSpec := { name := "snapshotAsks", fn := fun _ => fun
  | [d1, d2, d3] => { results := [.lit (.bool false)], args := [d1, d2, d3] }
  | _ => none }
def SnapshotAsksWrongFalsely : Prop := snapshotAsksRow.holds Try.pinned (OpenSpec.ofChange snapshotAsksWrong)

/-- 'bourselaw12.SnapshotDecodes': WHATEVER THE INPUT: true; the input reads as it did. -/
def snapshotDecodesSpec : ChangeSpec := { name := "snapshotDecodes", fn := fun _ => fun
  | [d] => { results := [.lit (.bool true)], args := [d] }
  | _ => none }
def snapshotDecodesRow : OpenClaim := { program := "ytkmakbkchnibkaa", sum := "4554652e5fbfd6da3b2684714aa646e715e60ef835cc359cf5015f22eb76365c", func := "bourse/bourselaw12.SnapshotDecodes", spec := "snapshotDecodes", apart := false }
def SnapshotDecodesSaid : Prop := snapshotDecodesRow.holds Try.pinned (OpenSpec.ofChange snapshotDecodesSpec)

/-- ITS FALSE NEIGHBOUR: 'it returns false'. Refute it at one input. -/
def snapshotDecodesWrong : ChangeSpec := { name := "snapshotDecodes", fn := fun _ => fun
  | [d] => { results := [.lit (.bool false)], args := [d] }
  | _ => none }
def SnapshotDecodesWrongFalsely : Prop := snapshotDecodesRow.holds Try.pinned (OpenSpec.ofChange snapshotDecodesWrong)

/-- 'bourselaw12.SnapshotEncodes': WHATEVER THE INPUT: true; the input reads as it did. -/
def snapshotEncodesSpec : ChangeSpec := { name := "snapshotEncodes", fn := fun _ => fun
  | [d] => { results := [.lit (.bool true)], args := [d] }
  | _ => none }
def snapshotEncodesRow : OpenClaim := { program := "ytkmakbkchnibkaa", sum := "4554652e5fbfd6da3b2684714aa646e715e60ef835cc359cf5015f22eb76365c", func := "bourse/bourselaw12.SnapshotEncodes", spec := "snapshotEncodes", apart := false }
def SnapshotEncodesSaid : Prop := snapshotEncodesRow.holds Try.pinned (OpenSpec.ofChange snapshotEncodesSpec)

/-- ITS FALSE NEIGHBOUR: 'it returns false'. Refute it at one input. -/
def snapshotEncodesWrong : ChangeSpec := { name := "snapshotEncodes", fn := fun _ => fun
  | [d] => { results := [.lit (.bool false)], args := [d] }
  | _ => none }
def SnapshotEncodesWrongFalsely : Prop := snapshotEncodesRow.holds Try.pinned (OpenSpec.ofChange snapshotEncodesWrong)

/- THE SECOND FORM. 'bulk': how many values and letters a reading holds, each counted each time it is reached (what is shared counts as often as it is met; a slice's spare places count too). A statement '..UptoSaid' is the law's where the arguments, and the package variables that the reading takes, are together of bulk at most 1048576: NARROWER than '..Said'. Prove '..Said' where nothing that the law and all that it calls make is longer than what came in: it says more and counts as full. Else prove '..UptoSaid'. A law counts once. -/
mutual
def uptoBulk {H : Type} : DataW H → Nat
  | .lit (.string bytes) => bytes.length + 1
  | .lit _ => 1
  | .nil => 1
  | .ptr d => uptoBulk d + 1
  | .slice elems spare => uptoBulkAll elems + uptoBulkAll spare + 1
  | .agg parts => uptoBulkAll parts + 1
  | .iface _ d => uptoBulk d + 1
  | .map entries => uptoBulkEntries entries + 1
  | .held _ => 1
def uptoBulkAll {H : Type} : List (DataW H) → Nat
  | [] => 0
  | d :: r => uptoBulk d + uptoBulkAll r
def uptoBulkEntries {H : Type} : List (Lit × DataW H) → Nat
  | [] => 0
  | x :: r => uptoBulkEntry x + uptoBulkEntries r
def uptoBulkEntry {H : Type} : Lit × DataW H → Nat
  | (.string bytes, d) => bytes.length + uptoBulk d + 1
  | (_, d) => uptoBulk d + 1
 end
def uptoSmall : (H : Type) → List (DataW H) → Bool := fun _ ds => decide (uptoBulkAll ds ≤ 1048576)
def OpenSpec.upto (s : _root_.Go.ChangeSpec) : _root_.Go.OpenSpec := { _root_.Go.OpenSpec.ofChange s with cond := some uptoSmall }

/-- 'bourselaw12.SnapshotAsks', WHERE WHAT IT READS IS OF BULK AT MOST 1048576: true; the input reads as it did. -/
def snapshotAsksUptoRow : OpenClaim := { program := "ytkmakbkchnibkaa", sum := "4554652e5fbfd6da3b2684714aa646e715e60ef835cc359cf5015f22eb76365c", func := "bourse/bourselaw12.SnapshotAsks", spec := "snapshotAsks", unfollowed := true, recurses := true, apart := false, narrowed := true }
def SnapshotAsksUptoSaid : Prop := snapshotAsksUptoRow.holds Try.pinned (OpenSpec.upto snapshotAsksSpec)

/-- 'bourselaw12.SnapshotDecodes', WHERE WHAT IT READS IS OF BULK AT MOST 1048576: true; the input reads as it did. -/
def snapshotDecodesUptoRow : OpenClaim := { program := "ytkmakbkchnibkaa", sum := "4554652e5fbfd6da3b2684714aa646e715e60ef835cc359cf5015f22eb76365c", func := "bourse/bourselaw12.SnapshotDecodes", spec := "snapshotDecodes", apart := false, narrowed := true }
def SnapshotDecodesUptoSaid : Prop := snapshotDecodesUptoRow.holds Try.pinned (OpenSpec.upto snapshotDecodesSpec)

/-- 'bourselaw12.SnapshotEncodes', WHERE WHAT IT READS IS OF BULK AT MOST 1048576: true; the input reads as it did. -/
def snapshotEncodesUptoRow : OpenClaim := { program := "ytkmakbkchnibkaa", sum := "4554652e5fbfd6da3b2684714aa646e715e60ef835cc359cf5015f22eb76365c", func := "bourse/bourselaw12.SnapshotEncodes", spec := "snapshotEncodes", apart := false, narrowed := true }
def SnapshotEncodesUptoSaid : Prop := snapshotEncodesUptoRow.holds Try.pinned (OpenSpec.upto snapshotEncodesSpec)

end Rows
end Go.Proofs.Ytkmakbkchnibkaa
