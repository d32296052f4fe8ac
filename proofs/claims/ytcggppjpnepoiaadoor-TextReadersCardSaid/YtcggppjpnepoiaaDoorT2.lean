/- bytes.IndexByte at a slice that is read: the first place of a byte. -/
import Derived.Test.YtcggppjpnepoiaaDoorT1
namespace Go.Rx
open Go Go.RowKit Go.Proofs.YtcggppjpnepoiaaDoor
set_option linter.unusedVariables false
theorem textIndexByte {w : World} {A : Option Addr} {c : Nat} {l : List Int} (hr : RSl byteEnc 1 w [] (.slice A l.length c) l) (hne : l ≠ []) (hB : isBytes l) :
    Spec Go.Proofs.Tryd.prog 50 #[.slice A l.length c, .int .u8 1] w [] (fun u _ => u = .int .i64 (if firstF 1 l < l.length then (firstF 1 l : Int) else -1)) := by
  obtain ⟨A', c', hv, _, hA⟩ := hr.shape
  cases hv
  cases A with
  | none => exact absurd (hA rfl) hne
  | some a =>
    have hc : ∀ i, i < l.length → w.cell? (a.add i) = some (.int .u8 (l.getD i 0)) := by
      intro i hi
      have h1 := (hr.cell i hi 0 (.int .u8 l[i]!) rfl).1
      have e1 : l.getD i 0 = l[i]! := by rw [getElem!_pos l i hi]; simp [List.getD, hi]
      rw [e1]
      simpa [sbase] using h1
    refine spec_of_below ⟨Go.Proofs.Tryd.f50, Go.Proofs.Tryd.func50, by kernel_rfl, rfl⟩ ((Go.Proofs.Tryd.bytes_IndexByte_at a l.length c l 1 w rfl hc).mono ?_)
    rintro e w' ⟨rfl, rfl⟩
    refine ⟨?_, Below.refl _ _⟩
    have h2 := indexByte_first (c := 1) hB
    have e2 : Lib.bytesOf l = l.map fun n => UInt8.ofNat n.toNat := rfl
    rw [e2]
    have e3 : (Int.toNat 1).toUInt8 = (1 : UInt8) := rfl
    rw [e3, h2]
    rfl
end Go.Rx
