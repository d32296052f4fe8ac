/- The plain law of numerals: what is read as a number by the loop is what ParseUint reads and Decimal writes back. -/
import Derived.Lib.ParseIntBCases
import Derived.Lib.ItoaNum
import Derived.Test.YtcggppjpnepoiaaDoorRxAll
namespace Go.Rx
open Go Go.Lib
structure Tg where
  tag : Int
  value : ByteArray
deriving DecidableEq, Inhabited
def Tg.enc (t : Tg) : List Value := [.int .i64 t.tag, .string t.value]
/-- The first value of a tag. -/
def valueF (xs : List Tg) (tag : Int) : Option ByteArray := (xs.find? fun t => decide (t.tag = tag)).map (·.value)
def valueV : Option ByteArray → Value | some s => .tuple #[.string s, .bool true] | none => .tuple #[.string ⟨#[]⟩, .bool false]
def natRest : List UInt8 → Nat → Option Nat
  | [], n => some n
  | c :: r, n => if c.toNat < 48 ∨ 57 < c.toNat then none else if (18446744073709551615 - (c.toNat - 48)) / 10 < n then none else natRest r (n * 10 + (c.toNat - 48))
def natF (s : ByteArray) : Option Nat := if s.size < 1 ∨ 20 < s.size ∨ (1 < s.size ∧ bAt s 0 = 48) then none else natRest s.data.toList 0
def natV : Option Nat → Value | some n => .tuple #[.int .u64 (n : Int), .bool true] | none => .tuple #[.int .u64 0, .bool false]
def okOf : NumEnd Nat → Option Nat | .ok u => some u | _ => none
def numOf (s : ByteArray) : Option Nat := match okOf (parseUintB 64 s.data.toList) with | some u => if decDigits u = s.data.toList then some u else none | none => none
def numV : Option ByteArray → Value
  | none => .tuple #[.int .u64 0, .int .i64 30]
  | some s => match numOf s with | some n => .tuple #[.int .u64 (n : Int), .int .i64 0] | none => .tuple #[.int .u64 0, .int .i64 31]
theorem natRest_eq : ∀ (l : List UInt8) (n : Nat), natRest l n = okOf (parseUintM 18446744073709551615 n l)
  | [], n => rfl
  | c :: r, n => by
    simp only [natRest, parseUintM]
    by_cases h : 48 ≤ c.toNat ∧ c.toNat ≤ 57
    · rw [if_neg (by omega), if_pos h]
      by_cases h2 : (18446744073709551615 - (c.toNat - 48)) / 10 < n
      · rw [if_pos h2]
        by_cases h3 : 1844674407370955162 ≤ n
        · rw [if_pos h3]; rfl
        · rw [if_neg h3, if_pos (by omega)]; rfl
      · rw [if_neg h2, if_neg (by omega), if_neg (by omega)]
        exact natRest_eq r _
    · rw [if_pos (by omega), if_neg h]; rfl
theorem dec_step {acc d : Nat} (h : 1 ≤ acc) (hd : d ≤ 9) : decDigits (acc * 10 + d) = decDigits acc ++ [UInt8.ofNat (48 + d)] := by
  rw [decDigits, dif_neg (by omega), show (acc * 10 + d) / 10 = acc by omega, show (acc * 10 + d) % 10 = d by omega]
theorem ofDigit {c : UInt8} (h : 48 ≤ c.toNat) : UInt8.ofNat (48 + (c.toNat - 48)) = c := by
  rw [show 48 + (c.toNat - 48) = c.toNat by omega, UInt8.ofNat_toNat]
theorem dec_parse {M : Nat} : ∀ (l : List UInt8) (acc u : Nat), 1 ≤ acc → parseUintM M acc l = .ok u → decDigits u = decDigits acc ++ l
  | [], acc, u, _, h => by
    simp only [parseUintM] at h
    cases h
    simp
  | c :: r, acc, u, h1, h => by
    simp only [parseUintM] at h
    split at h
    · rename_i hc
      split at h
      · cases h
      · split at h
        · cases h
        · rw [dec_parse r _ u (by omega) h, dec_step h1 (by omega), ofDigit hc.1]
          simp
    · cases h
theorem dec_parse0 {M : Nat} {c : UInt8} {r : List UInt8} {u : Nat} (h : parseUintM M 0 (c :: r) = .ok u) (hz : ¬ (r ≠ [] ∧ c.toNat = 48)) : decDigits u = c :: r := by
  simp only [parseUintM] at h
  split at h
  · rename_i hc
    split at h
    · cases h
    · split at h
      · cases h
      · rw [Nat.zero_mul, Nat.zero_add] at h
        have h9 : decDigits (c.toNat - 48) = [c] := by rw [decDigits_one (by omega), ofDigit hc.1]
        by_cases hr : r = []
        · subst hr
          simp only [parseUintM] at h
          cases h
          exact h9
        · have h48 : c.toNat ≠ 48 := fun hh => hz ⟨hr, hh⟩
          rw [dec_parse r _ u (by omega) h, h9]
          rfl
  · cases h
theorem dec_head : ∀ (u : Nat), 1 ≤ u → ∃ c r, decDigits u = c :: r ∧ c.toNat ≠ 48 := by
  intro u
  induction u using Nat.strongRecOn with
  | _ u ih =>
    intro h1
    by_cases h : u < 10
    · refine ⟨_, [], decDigits_one h, ?_⟩
      rw [UInt8.toNat_ofNat']
      omega
    · obtain ⟨c, r, h2, h3⟩ := ih (u / 10) (by omega) (by omega)
      refine ⟨c, r ++ [UInt8.ofNat (48 + u % 10)], ?_, h3⟩
      rw [decDigits, dif_neg h, h2]
      rfl
theorem dec_len {u : Nat} (h : u < 18446744073709551616) : (decDigits u).length ≤ 20 := by
  rw [decDigits_length]
  by_cases h1 : 1 ≤ u
  · have := numDigits_eq u h1 h
    split at this <;> omega
  · rw [nDigits_small (by omega)]; omega
theorem natF_eq (s : ByteArray) : natF s = numOf s := by
  have e64 : (2 : Nat) ^ 64 - 1 = 18446744073709551615 := by decide
  have hsz : s.size = s.data.toList.length := by simp
  have hb : bAt s 0 = ((s.data.toList[0]?.getD 0).toNat : Int) := by
    unfold bAt
    simp [Array.getElem?_toList]
  unfold natF numOf
  rw [hsz, hb]
  generalize s.data.toList = l
  cases l with
  | nil => simp [parseUintB, okOf]
  | cons c r =>
    have hp : parseUintB 64 (c :: r) = parseUintM 18446744073709551615 0 (c :: r) := by unfold parseUintB; rw [if_neg (by simp), e64]
    rw [natRest_eq, hp]
    have hle := fun u => parseUintM_le 18446744073709551615 (c :: r) 0 u (Nat.zero_le _)
    cases hq : parseUintM 18446744073709551615 0 (c :: r) with
    | ok u =>
      have hu := hle u hq
      simp only [okOf]
      have hkey : decDigits u = c :: r ↔ ¬ ((c :: r).length < 1 ∨ 20 < (c :: r).length ∨ (1 < (c :: r).length ∧ (((c :: r)[0]?.getD 0).toNat : Int) = 48)) := by
        have e0 : (c :: r)[0]?.getD 0 = c := rfl
        rw [e0]
        constructor
        · intro hd hh
          have hl := dec_len (u := u) (by omega)
          rw [hd] at hl
          rcases hh with hh | hh | ⟨hh, hc⟩
          · simp at hh
          · omega
          · have hc2 : c.toNat = 48 := by exact_mod_cast hc
            by_cases h1 : 1 ≤ u
            · obtain ⟨c', r', he, hn⟩ := dec_head u h1
              rw [hd] at he
              cases he
              exact hn hc2
            · have : u = 0 := by omega
              subst this
              rw [decDigits_one (by omega)] at hd
              cases hd
              simp at hh
        · intro hh
          refine dec_parse0 hq ?_
          rintro ⟨hr, hc⟩
          refine hh (.inr (.inr ⟨?_, by rw [hc]; rfl⟩))
          have : 0 < r.length := List.length_pos_iff.2 hr
          simp
          omega
      by_cases hd : decDigits u = c :: r
      · rw [if_neg (hkey.1 hd), if_pos hd]
      · rw [if_pos (Classical.byContradiction fun h => hd (hkey.2 h)), if_neg hd]
    | _ => simp [okOf]
end Go.Rx
