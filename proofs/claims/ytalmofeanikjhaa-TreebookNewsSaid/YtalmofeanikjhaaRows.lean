/-
  No cell of these rows narrows 'for every input' (looked for: loops, veiled, ifaces, maps, wideKeys, modest, calm, conditions, laid).
  DERIVED. THE GIVEN ROWS OF THIS SEAT. 7 by the template 'for every input the law returns true; each argument reads behind the call as it read before'; 0 by the template 'total and deterministic' (their statements: YtalmofeanikjhaaTotals.lean).
  GIVEN WITH THE SEED: the statements are not yours to turn. If you find one false, say at which input.
  Laid BY PROGRAM, IN A SANDBOX (cutbox-rows.mjs): the forced cells as the released guide's own fill.sh prints them over the translation 2ddcb388d76589ef… (all of the seat's roots in one cut). By AI agents, Wed Nov 11 2026. No macro, syntax, notation, axiom, sorry.
-/
import Derived.Test.YtalmofeanikjhaaChecked
import GoSem.Claim
import GoSem.ClaimJoined
import GoSem.ClaimMapViews
import Derived.JoinedTies
import Derived.KernelRfl
namespace Go.Proofs.Ytalmofeanikjhaa
/- THE CELL 'sum', in the pinned program and in every row, IS THE sha256 OF THE DUMP (.gsa) THAT YtalmofeanikjhaaProg.lean LOADS. Nothing in Lean hashes anything: it is a label: what it is worth is what the hold of that sum in a sandbox is worth. -/
noncomputable def Try.pinned : Pinned := { name := "ytalmofeanikjhaa", sum := "2ddcb388d76589efba55ece4a601bd5908f84e81e75d6cc53bfe8c0f52eeda77", checked := Try.checked }
namespace Rows
def none {H : Type} : Left H := { results := [], args := [] }

/-- 'bourselaw10.TreebookQuantity': WHATEVER THE INPUT: true; the input reads as it did. -/
def treebookQuantitySpec : ChangeSpec := { name := "treebookQuantity", fn := fun _ => fun
  | [d1, d2] => { results := [.lit (.bool true)], args := [d1, d2] }
  | _ => none }
def treebookQuantityRow : OpenClaim := { program := "ytalmofeanikjhaa", sum := "2ddcb388d76589efba55ece4a601bd5908f84e81e75d6cc53bfe8c0f52eeda77", func := "bourse/bourselaw10.TreebookQuantity", spec := "treebookQuantity", unfollowed := true, recurses := true, apart := false }
def TreebookQuantitySaid : Prop := treebookQuantityRow.holds Try.pinned (OpenSpec.ofChange treebookQuantitySpec)

/-- ITS FALSE NEIGHBOUR: 'it returns false'. Refute it at one input. -/
def treebookQuantityWrong : ChangeSpec := { name := "treebookQuantity", fn := fun _ => fun
  | [d1, d2] => { results := [.lit (.bool false)], args := [d1, d2] }
  | _ => none }
def TreebookQuantityWrongFalsely : Prop := treebookQuantityRow.holds Try.pinned (OpenSpec.ofChange treebookQuantityWrong)

/-- 'bourselaw10.TreebookLoads': WHATEVER THE INPUT: true; the input reads as it did. -/
def treebookLoadsSpec : ChangeSpec := { name := "treebookLoads", fn := fun _ => fun
  | [d1, d2, d3, d4] => { results := [.lit (.bool true)], args := [d1, d2, d3, d4] }
  | _ => none }
def treebookLoadsRow : OpenClaim := { program := "ytalmofeanikjhaa", sum := "2ddcb388d76589efba55ece4a601bd5908f84e81e75d6cc53bfe8c0f52eeda77", func := "bourse/bourselaw10.TreebookLoads", spec := "treebookLoads", unfollowed := true, recurses := true, apart := false }
def TreebookLoadsSaid : Prop := treebookLoadsRow.holds Try.pinned (OpenSpec.ofChange treebookLoadsSpec)

/-- ITS FALSE NEIGHBOUR: 'it returns false'. Refute it at one input. -/
def treebookLoadsWrong : ChangeSpec := { name := "treebookLoads", fn := fun _ => fun
  | [d1, d2, d3, d4] => { results := [.lit (.bool false)], args := [d1, d2, d3, d4] }
  | _ => none }
def TreebookLoadsWrongFalsely : Prop := treebookLoadsRow.holds Try.pinned (OpenSpec.ofChange treebookLoadsWrong)

/-- 'bourselaw10.TreebookWhole': WHATEVER THE INPUT: true; the input reads as it did. -/
def treebookWholeSpec : ChangeSpec := { name := "treebookWhole", fn := fun _ => fun
  | [d1, d2, d3, d4] => { results := [.lit (.bool true)], args := [d1, d2, d3, d4] }
  | _ => none }
def treebookWholeRow : OpenClaim := { program := "ytalmofeanikjhaa", sum := "2ddcb388d76589efba55ece4a601bd5908f84e81e75d6cc53bfe8c0f52eeda77", func := "bourse/bourselaw10.TreebookWhole", spec := "treebookWhole", unfollowed := true, recurses := true, apart := false }
def TreebookWholeSaid : Prop := treebookWholeRow.holds Try.pinned (OpenSpec.ofChange treebookWholeSpec)

/-- ITS FALSE NEIGHBOUR: 'it returns false'. Refute it at one input. -/
def treebookWholeWrong : ChangeSpec := { name := "treebookWhole", fn := fun _ => fun
  | [d1, d2, d3, d4] => { results := [.lit (.bool false)], args := [d1, d2, d3, d4] }
  | _ => none }
def TreebookWholeWrongFalsely : Prop := treebookWholeRow.holds Try.pinned (OpenSpec.ofChange treebookWholeWrong)

/-- 'bourselaw10.TreebookNews': WHATEVER THE INPUT: true; the input reads as it did. -/
def treebookNewsSpec : ChangeSpec := { name := "treebookNews", fn := fun _ => fun
  | [d] => { results := [.lit (.bool true)], args := [d] }
  | _ => none }
def treebookNewsRow : OpenClaim := { program := "ytalmofeanikjhaa", sum := "2ddcb388d76589efba55ece4a601bd5908f84e81e75d6cc53bfe8c0f52eeda77", func := "bourse/bourselaw10.TreebookNews", spec := "treebookNews", unfollowed := true, recurses := true, apart := false }
def TreebookNewsSaid : Prop := treebookNewsRow.holds Try.pinned (OpenSpec.ofChange treebookNewsSpec)

/-- ITS FALSE NEIGHBOUR: 'it returns false'. Refute it at one input. -/
def treebookNewsWrong : ChangeSpec := { name := "treebookNews", fn := fun _ => fun
  | [d] => { results := [.lit (.bool false)], args := [d] }
  | _ => none }
def TreebookNewsWrongFalsely : Prop := treebookNewsRow.holds Try.pinned (OpenSpec.ofChange treebookNewsWrong)

/-- 'bourselaw10.TreebookAll': WHATEVER THE INPUT: true; the input reads as it did. -/
def treebookAllSpec : ChangeSpec := { name := "treebookAll", fn := fun _ => fun
  | [d1, d2, d3, d4] => { results := [.lit (.bool true)], args := [d1, d2, d3, d4] }
  | _ => none }
def treebookAllRow : OpenClaim := { program := "ytalmofeanikjhaa", sum := "2ddcb388d76589efba55ece4a601bd5908f84e81e75d6cc53bfe8c0f52eeda77", func := "bourse/bourselaw10.TreebookAll", spec := "treebookAll", unfollowed := true, recurses := true, apart := false }
def TreebookAllSaid : Prop := treebookAllRow.holds Try.pinned (OpenSpec.ofChange treebookAllSpec)

/-- ITS FALSE NEIGHBOUR: 'it returns false'. Refute it at one input. -/
def treebookAllWrong : ChangeSpec := { name := "treebookAll", fn := fun _ => fun
  | [d1, d2, d3, d4] => { results := [.lit (.bool false)], args := [d1, d2, d3, d4] }
  | _ => none }
def TreebookAllWrongFalsely : Prop := treebookAllRow.holds Try.pinned (OpenSpec.ofChange treebookAllWrong)

/-- 'bourselaw10.TreebookRuns': WHATEVER THE INPUT: true; the input reads as it did. -/
def treebookRunsSpec : ChangeSpec := { name := "treebookRuns", fn := fun _ => fun
  | [d1, d2] => { results := [.lit (.bool true)], args := [d1, d2] }
  | _ => none }
def treebookRunsRow : OpenClaim := { program := "ytalmofeanikjhaa", sum := "2ddcb388d76589efba55ece4a601bd5908f84e81e75d6cc53bfe8c0f52eeda77", func := "bourse/bourselaw10.TreebookRuns", spec := "treebookRuns", unfollowed := true, recurses := true, apart := false }
def TreebookRunsSaid : Prop := treebookRunsRow.holds Try.pinned (OpenSpec.ofChange treebookRunsSpec)

/-- ITS FALSE NEIGHBOUR: 'it returns false'. Refute it at one input. -/
def treebookRunsWrong : ChangeSpec := { name := "treebookRuns", fn := fun _ => fun
  | [d1, d2] => { results := [.lit (.bool false)], args := [d1, d2] }
  | _ => none }
def TreebookRunsWrongFalsely : Prop := treebookRunsRow.holds Try.pinned (OpenSpec.ofChange treebookRunsWrong)

/-- 'bourselaw10.TreebookTwins': WHATEVER THE INPUT: true; the input reads as it did. -/
def treebookTwinsSpec : ChangeSpec := { name := "treebookTwins", fn := fun _ => fun
  | [d1, d2, d3] => { results := [.lit (.bool true)], args := [d1, d2, d3] }
  | _ => none }
def treebookTwinsRow : OpenClaim := { program := "ytalmofeanikjhaa", sum := "2ddcb388d76589efba55ece4a601bd5908f84e81e75d6cc53bfe8c0f52eeda77", func := "bourse/bourselaw10.TreebookTwins", spec := "treebookTwins", inPlace := ["slices.overlaps[bourse/api.Resting]"], unfollowed := true, recurses := true, apart := false }
def TreebookTwinsSaid : Prop := treebookTwinsRow.holds Try.pinned (OpenSpec.ofChange treebookTwinsSpec)

/-- ITS FALSE NEIGHBOUR: 'it returns false'. Refute it at one input. -/
def treebookTwinsWrong : ChangeSpec := { name := "treebookTwins", fn := fun _ => fun
  | [d1, d2, d3] => { results := [.lit (.bool false)], args := [d1, d2, d3] }
  | _ => none }
def TreebookTwinsWrongFalsely : Prop := treebookTwinsRow.holds Try.pinned (OpenSpec.ofChange treebookTwinsWrong)

/- THE SECOND FORM. 'bulk': how many values and letters a reading holds, each counted each time it is reached (what is shared counts as often as it is met; a slice's spare places count too). A statement '..UptoSaid' is the law's where the arguments, and the package variables that the reading takes, are together of bulk at most 1048576: NARROWER than '..Said'. Prove '..Said' where nothing that the law and all that it calls make is longer than what came in: it says more and counts as full. Else prove '..UptoSaid'. A law counts once. -/
mutual
def uptoBulk {H : Type} : DataW H → Nat
  | .lit (.string bytes) => bytes.length + 1
  | .lit _ => 1
  | .nil => 1
  | .ptr d => uptoBulk d + 1
  | .slice elems spare => uptoBulkAll elems + uptoBulkAll spare + 1
  | .agg parts => uptoBulkAll parts + 1
  | .iface _ d => uptoBulk d + 1
  | .map entries => uptoBulkEntries entries + 1
  | .held _ => 1
def uptoBulkAll {H : Type} : List (DataW H) → Nat
  | [] => 0
  | d :: r => uptoBulk d + uptoBulkAll r
def uptoBulkEntries {H : Type} : List (Lit × DataW H) → Nat
  | [] => 0
  | x :: r => uptoBulkEntry x + uptoBulkEntries r
def uptoBulkEntry {H : Type} : Lit × DataW H → Nat
  | (.string bytes, d) => bytes.length + uptoBulk d + 1
  | (_, d) => uptoBulk d + 1
 end
def uptoSmall : (H : Type) → List (DataW H) → Bool := fun _ ds => decide (uptoBulkAll ds ≤ 1048576)
def OpenSpec.upto (s : _root_.Go.ChangeSpec) : _root_.Go.OpenSpec := { _root_.Go.OpenSpec.ofChange s with cond := some uptoSmall }

/-- 'bourselaw10.TreebookQuantity', WHERE WHAT IT READS IS OF BULK AT MOST 1048576: true; the input reads as it did. -/
def treebookQuantityUptoRow : OpenClaim := { program := "ytalmofeanikjhaa", sum := "2ddcb388d76589efba55ece4a601bd5908f84e81e75d6cc53bfe8c0f52eeda77", func := "bourse/bourselaw10.TreebookQuantity", spec := "treebookQuantity", unfollowed := true, recurses := true, apart := false, narrowed := true }
def TreebookQuantityUptoSaid : Prop := treebookQuantityUptoRow.holds Try.pinned (OpenSpec.upto treebookQuantitySpec)

/-- 'bourselaw10.TreebookLoads', WHERE WHAT IT READS IS OF BULK AT MOST 1048576: true; the input reads as it did. -/
def treebookLoadsUptoRow : OpenClaim := { program := "ytalmofeanikjhaa", sum := "2ddcb388d76589efba55ece4a601bd5908f84e81e75d6cc53bfe8c0f52eeda77", func := "bourse/bourselaw10.TreebookLoads", spec := "treebookLoads", unfollowed := true, recurses := true, apart := false, narrowed := true }
def TreebookLoadsUptoSaid : Prop := treebookLoadsUptoRow.holds Try.pinned (OpenSpec.upto treebookLoadsSpec)

/-- 'bourselaw10.TreebookWhole', WHERE WHAT IT READS IS OF BULK AT MOST 1048576: true; the input reads as it did. -/
def treebookWholeUptoRow : OpenClaim := { program := "ytalmofeanikjhaa", sum := "2ddcb388d76589efba55ece4a601bd5908f84e81e75d6cc53bfe8c0f52eeda77", func := "bourse/bourselaw10.TreebookWhole", spec := "treebookWhole", unfollowed := true, recurses := true, apart := false, narrowed := true }
def TreebookWholeUptoSaid : Prop := treebookWholeUptoRow.holds Try.pinned (OpenSpec.upto treebookWholeSpec)

/-- 'bourselaw10.TreebookNews', WHERE WHAT IT READS IS OF BULK AT MOST 1048576: true; the input reads as it did. -/
def treebookNewsUptoRow : OpenClaim := { program := "ytalmofeanikjhaa", sum := "2ddcb388d76589efba55ece4a601bd5908f84e81e75d6cc53bfe8c0f52eeda77", func := "bourse/bourselaw10.TreebookNews", spec := "treebookNews", unfollowed := true, recurses := true, apart := false, narrowed := true }
def TreebookNewsUptoSaid : Prop := treebookNewsUptoRow.holds Try.pinned (OpenSpec.upto treebookNewsSpec)

/-- 'bourselaw10.TreebookAll', WHERE WHAT IT READS IS OF BULK AT MOST 1048576: true; the input reads as it did. -/
def treebookAllUptoRow : OpenClaim := { program := "ytalmofeanikjhaa", sum := "2ddcb388d76589efba55ece4a601bd5908f84e81e75d6cc53bfe8c0f52eeda77", func := "bourse/bourselaw10.TreebookAll", spec := "treebookAll", unfollowed := true, recurses := true, apart := false, narrowed := true }
def TreebookAllUptoSaid : Prop := treebookAllUptoRow.holds Try.pinned (OpenSpec.upto treebookAllSpec)

/-- 'bourselaw10.TreebookRuns', WHERE WHAT IT READS IS OF BULK AT MOST 1048576: true; the input reads as it did. -/
def treebookRunsUptoRow : OpenClaim := { program := "ytalmofeanikjhaa", sum := "2ddcb388d76589efba55ece4a601bd5908f84e81e75d6cc53bfe8c0f52eeda77", func := "bourse/bourselaw10.TreebookRuns", spec := "treebookRuns", unfollowed := true, recurses := true, apart := false, narrowed := true }
def TreebookRunsUptoSaid : Prop := treebookRunsUptoRow.holds Try.pinned (OpenSpec.upto treebookRunsSpec)

/-- 'bourselaw10.TreebookTwins', WHERE WHAT IT READS IS OF BULK AT MOST 1048576: true; the input reads as it did. -/
def treebookTwinsUptoRow : OpenClaim := { program := "ytalmofeanikjhaa", sum := "2ddcb388d76589efba55ece4a601bd5908f84e81e75d6cc53bfe8c0f52eeda77", func := "bourse/bourselaw10.TreebookTwins", spec := "treebookTwins", inPlace := ["slices.overlaps[bourse/api.Resting]"], unfollowed := true, recurses := true, apart := false, narrowed := true }
def TreebookTwinsUptoSaid : Prop := treebookTwinsUptoRow.holds Try.pinned (OpenSpec.upto treebookTwinsSpec)

end Rows
end Go.Proofs.Ytalmofeanikjhaa
