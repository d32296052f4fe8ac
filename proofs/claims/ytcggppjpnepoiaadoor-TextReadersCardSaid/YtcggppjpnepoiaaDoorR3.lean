/- Atoi and Itoa of any short text. -/
import Derived.Test.YtcggppjpnepoiaaDoorQ2
namespace Go.Rx
open Go Go.RowKit Go.Lib Go.Proofs.YtcggppjpnepoiaaDoor
set_option linter.unusedVariables false
set_option linter.unusedSimpArgs false
theorem atoi_nat2 {s : ByteArray} {n0 : Int} {be : Bool} (hat : atoiOk s = if be = true then none else some n0) (hs : s.size ≤ 18) :
    natF s = if ((be || decide ((⟨(itoa n0).toArray⟩ : ByteArray) ≠ s)) || decide (n0 < 0)) = true then none else some n0.toNat := by
  have key : ∀ k, natF s = some k → atoiOk s = some (k : Int) ∧ (⟨(itoa (k : Int)).toArray⟩ : ByteArray) = s := by
    intro k hk
    have h1 := natF_lt hk
    rw [natF_eq] at hk
    obtain ⟨h2, h3⟩ := numOf_some hk
    have h4 : k < 10 ^ 18 := Nat.lt_of_lt_of_le h1 (Nat.pow_le_pow_right (by decide) hs)
    have h5 : (10 : Nat) ^ 18 = 1000000000000000000 := by decide
    refine ⟨by rw [h2]; exact atoi_dec (by omega), ?_⟩
    rw [itoa_nonneg, h2]
    rfl
  cases be with
  | true =>
    simp only [if_true] at hat
    simp only [Bool.true_or, if_true]
    cases hk : natF s with
    | none => rfl
    | some k => rw [(key k hk).1] at hat; cases hat
  | false =>
    have hat2 : atoiOk s = some n0 := hat
    simp only [Bool.false_or, Bool.or_eq_true, decide_eq_true_eq]
    by_cases he : (⟨(itoa n0).toArray⟩ : ByteArray) = s ∧ 0 ≤ n0
    · rw [if_neg (by rintro (h | h); exact h he.1; omega)]
      have hb : n0 ≤ 9223372036854775807 := by
        unfold atoiOk at hat2
        cases hq : atoiAll s.data.toList with
        | ok m =>
          rw [hq] at hat2
          simp only [Option.some.injEq] at hat2
          have := atoiAll_bounds hq
          omega
        | _ => rw [hq] at hat2; cases hat2
      have hs2 : s = decS n0.toNat := by
        rw [← he.1]
        unfold decS itoa
        rw [if_neg (by omega)]
      rw [hs2, natF_eq]
      exact numOf_dec (by omega)
    · have hc : ¬ (⟨(itoa n0).toArray⟩ : ByteArray) = s ∨ n0 < 0 := by
        by_cases h1 : (⟨(itoa n0).toArray⟩ : ByteArray) = s
        · exact .inr (by have : ¬ 0 ≤ n0 := fun h => he ⟨h1, h⟩; omega)
        · exact .inl h1
      rw [if_pos hc]
      cases hk : natF s with
      | none => rfl
      | some k =>
        obtain ⟨h1, h2⟩ := key k hk
        rw [h1] at hat2
        cases hat2
        exact absurd ⟨h2, by omega⟩ he
/-- What a field's bytes say of a line so far: the error, the kind, the fields. -/
def fieldN (F : List Int) : Option Nat := if firstF 61 F < F.length ∧ firstF 61 F ≤ 4 then natF (strOf (F.take (firstF 61 F))) else none
def fieldV (F : List Int) : ByteArray := strOf (F.drop (firstF 61 F + 1))
def takeF (F : List Int) (first : Bool) (kind : ByteArray) (xs : List Tg) : Int × ByteArray × List Tg :=
  match fieldN F with
  | none => (3, kind, xs)
  | some n =>
    if first = true then (if n ≠ 35 ∨ kindB (fieldV F) = false then (3, kind, xs) else (0, fieldV F, xs))
    else if xs.length = 64 then (2, kind, xs)
    else if refusedF xs ⟨n, fieldV F⟩ ≠ 0 then (refusedF xs ⟨n, fieldV F⟩, kind, xs)
    else (0, kind, xs ++ [⟨n, fieldV F⟩])
end Go.Rx
