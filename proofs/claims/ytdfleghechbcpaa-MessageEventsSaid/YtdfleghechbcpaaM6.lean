/- A part of the proof: the text M6. -/
import Derived.Test.YtdfleghechbcpaaM5
namespace Go.Rx
open Go Go.RowKit
set_option linter.unusedVariables false
set_option linter.unusedSimpArgs false
structure Input.Wf (i : Input) : Prop where
  ckind : -9223372036854775808 ≤ i.ckind ∧ i.ckind ≤ 9223372036854775807
  id : 0 ≤ i.id ∧ i.id ≤ 18446744073709551615
  target : 0 ≤ i.target ∧ i.target ≤ 18446744073709551615
  member : 0 ≤ i.member ∧ i.member ≤ 4294967295
  side : -9223372036854775808 ≤ i.side ∧ i.side ≤ 9223372036854775807
  type : -9223372036854775808 ≤ i.type ∧ i.type ≤ 9223372036854775807
  price : -9223372036854775808 ≤ i.price ∧ i.price ≤ 9223372036854775807
  qty : 0 ≤ i.qty ∧ i.qty ≤ 18446744073709551615
  peak : 0 ≤ i.peak ∧ i.peak ≤ 18446744073709551615
  engine : -9223372036854775808 ≤ i.engine ∧ i.engine ≤ 9223372036854775807
theorem s64_mod {n : Int} (h : -9223372036854775808 ≤ n ∧ n ≤ 9223372036854775807) : s64 (n % 18446744073709551616) = n := by
  have h64 : (2 ^ IntKind.i64.bits : Int) = 18446744073709551616 := rfl
  have h63 : (2 ^ (IntKind.i64.bits - 1) : Int) = 9223372036854775808 := rfl
  have hs : IntKind.i64.signed = true := rfl
  simp only [s64, IntKind.wrap, h64, h63, hs, Bool.true_and, ge_iff_le, decide_eq_true_eq]
  split <;> omega
theorem s64_in {n : Int} (h : 0 ≤ n ∧ n ≤ 9223372036854775807) : s64 n = n := by
  have := s64_mod (n := n) (by omega)
  rwa [Int.emod_eq_of_lt h.1 (by omega)] at this
theorem up_zero {n : Int} (h : 0 ≤ n ∧ n ≤ 18446744073709551615) : up n 0 = n := by
  have h64 : (2 ^ IntKind.u64.bits : Int) = 18446744073709551616 := rfl
  have hs : IntKind.u64.signed = false := rfl
  have e : (2 : Int) ^ (min (Int.toNat 0) IntKind.u64.bits) = 1 := rfl
  simp only [up, IntKind.wrap, h64, hs, Bool.false_and, e, Int.mul_one]
  exact Int.emod_eq_of_lt h.1 (by omega)
theorem up_none (n : Int) : up 0 n = 0 := by
  have h64 : (2 ^ IntKind.u64.bits : Int) = 18446744073709551616 := rfl
  have hs : IntKind.u64.signed = false := rfl
  simp [up, IntKind.wrap, h64, hs]
theorem add64_zero {n : Int} (h : 0 ≤ n ∧ n ≤ 18446744073709551615) : add64 0 n = n := by
  rw [add64, Int.zero_add]
  exact Int.emod_eq_of_lt h.1 (by omega)
theorem add64_zero' {n : Int} (h : 0 ≤ n ∧ n ≤ 18446744073709551615) : add64 n 0 = n := by
  rw [add64, Int.add_zero]
  exact Int.emod_eq_of_lt h.1 (by omega)
theorem add64_range (a b : Int) : 0 ≤ add64 a b ∧ add64 a b ≤ 18446744073709551615 := by
  unfold add64
  omega
theorem pack_err {i : Input} {e : Int} (he : e ≠ 0) (h1 : toldE i = e) (h2 : refE i = e) : packF i = refPackF i := by
  rw [packF, refPackF, if_neg (by rw [h1]; exact he), if_neg (by rw [h2]; exact he), h1, h2]
theorem step_small {i : Input} {f : RF} {s : Input × List Int} {n : Int} (hn : -9223372036854775808 ≤ n ∧ n ≤ 9223372036854775807) (hv : valueF i f.tag = (n % 18446744073709551616, decide (0 ≤ n))) (hm : 0 < f.most ∧ f.most ≤ 4294967295) :
    stepF i f s = if 0 ≤ n ∧ n ≤ f.most then some (withF s.1 f.tag (n % 18446744073709551616), s.2 ++ [n % 18446744073709551616]) else none := by
  unfold stepF
  rw [hv]
  by_cases h0 : 0 ≤ n
  · have e1 : n % 18446744073709551616 = n := Int.emod_eq_of_lt h0 (by omega)
    simp only [e1, h0, decide_true, true_and]
    by_cases h1 : n ≤ f.most
    · rw [if_pos h1, if_neg (by simp), if_neg (by omega)]
    · rw [if_neg h1, if_neg (by simp), if_pos ⟨hm.1, by omega⟩]
  · rw [if_pos (by simp [h0]), if_neg (fun h => h0 h.1)]
theorem step_any {i : Input} {f : RF} {s : Input × List Int} {n : Int} (hv : valueF i f.tag = (n, true)) (hm : f.most = 0 ∨ n ≤ f.most) :
    stepF i f s = some (withF s.1 f.tag n, s.2 ++ [n]) := by
  unfold stepF
  rw [hv, if_neg (by simp), if_neg (by simp only; omega)]
theorem pack_new {i : Input} (hw : i.Wf) (h1 : i.kind = 1) (h2 : i.ckind = 1) : packF i = refPackF i := by
  have hF : fieldsF i = some (1, ⟨#[68]⟩, [wholeF 11 i.id, wholeF 1 (i.member % 18446744073709551616), upToF 54 i.side 255, upToF 40 i.type 255, upToF 44 i.price 4294967295, wholeF 38 i.qty, wholeF 210 i.peak]) := by
    rw [fieldsF, if_neg (by omega), if_neg (by omega), if_pos h2]
  have hN : nameF i = 1 := by rw [nameF, if_neg (by omega), if_pos (by omega), h2]
  have hm := hw.member
  have em : i.member % 18446744073709551616 = i.member := Int.emod_eq_of_lt hm.1 (by omega)
  have em2 : i.member % 4294967296 = i.member := Int.emod_eq_of_lt hm.1 (by omega)
  have hR : refE i = match valsGo i (refFieldsF 1) (bareF 1, []) with | none => 40 | some s => if s.1 = i then 0 else 40 := by
    rw [refE, hN]
    rfl
  have v1 : stepF i ⟨11, 0, 0, 0⟩ (bareF 1, []) = _ := step_any (n := i.id) rfl (.inl rfl)
  have v2 : ∀ s, stepF i ⟨1, 4294967295, 2, 0⟩ s = _ := fun s => step_any (n := i.member % 18446744073709551616) rfl (.inr (by rw [em]; exact hm.2))
  have v3 : ∀ s, stepF i ⟨54, 255, 2, 32⟩ s = _ := fun s => step_small hw.side rfl (by decide)
  have v4 : ∀ s, stepF i ⟨40, 255, 2, 40⟩ s = _ := fun s => step_small hw.type rfl (by decide)
  have v5 : ∀ s, stepF i ⟨44, 4294967295, 3, 0⟩ s = _ := fun s => step_small hw.price rfl (by decide)
  have v6 : ∀ s, stepF i ⟨38, 0, 4, 0⟩ s = _ := fun s => step_any (n := i.qty) rfl (.inl rfl)
  have v7 : ∀ s, stepF i ⟨210, 0, 5, 0⟩ s = _ := fun s => step_any (n := i.peak) rfl (.inl rfl)
  have hV : valsGo i (refFieldsF 1) (bareF 1, []) = valsGo i [⟨11, 0, 0, 0⟩, ⟨1, 4294967295, 2, 0⟩, ⟨54, 255, 2, 32⟩, ⟨40, 255, 2, 40⟩, ⟨44, 4294967295, 3, 0⟩, ⟨38, 0, 4, 0⟩, ⟨210, 0, 5, 0⟩] (bareF 1, []) := rfl
  by_cases hs : (0 ≤ i.side ∧ i.side ≤ 255) ∧ (0 ≤ i.type ∧ i.type ≤ 255) ∧ (0 ≤ i.price ∧ i.price ≤ 4294967295)
  · obtain ⟨b1, b2, b3⟩ := hs
    have es : i.side % 18446744073709551616 = i.side := Int.emod_eq_of_lt b1.1 (by omega)
    have et : i.type % 18446744073709551616 = i.type := Int.emod_eq_of_lt b2.1 (by omega)
    have ep : i.price % 18446744073709551616 = i.price := Int.emod_eq_of_lt b3.1 (by omega)
    have fs : s64 i.side = i.side := s64_in (by omega)
    have ft : s64 i.type = i.type := s64_in (by omega)
    have fp : s64 i.price = i.price := s64_in (by omega)
    simp only [valsGo, v1, v2, v3, v4, v5, v6, v7, if_pos b1, if_pos b2, if_pos b3, List.nil_append, List.cons_append] at hV
    have hs1 : valsGo i (refFieldsF 1) (bareF 1, []) = some (⟨1, 1, i.id, 0, i.member, i.side, i.type, i.price, i.qty, i.peak, 0⟩, [i.id, i.member, i.side, i.type, i.price, i.qty, i.peak]) := by
      rw [hV]
      simp [withF, bareF, em, em2, es, et, ep, fs, ft, fp]
    have hI : inputF 1 (numsF [wholeF 11 i.id, wholeF 1 (i.member % 18446744073709551616), upToF 54 i.side 255, upToF 40 i.type 255, upToF 44 i.price 4294967295, wholeF 38 i.qty, wholeF 210 i.peak]) = ⟨1, 1, i.id, 0, i.member, i.side, i.type, i.price, i.qty, i.peak, 0⟩ := by
      simp [wholeF, upToF, numsF, iput, inputF, iget, em, em2, es, et, ep, fs, ft, fp]
      rfl
    have hA : ([wholeF 11 i.id, wholeF 1 (i.member % 18446744073709551616), upToF 54 i.side 255, upToF 40 i.type 255, upToF 44 i.price 4294967295, wholeF 38 i.qty, wholeF 210 i.peak].all (·.fits)) = true := by
      simp [wholeF, upToF, b1, b2, b3]
    by_cases hX : (⟨1, 1, i.id, 0, i.member, i.side, i.type, i.price, i.qty, i.peak, 0⟩ : Input) = i
    · have t0 : toldE i = 0 := by
        rw [toldE, hF]
        exact if_pos ⟨hA, by rw [hI]; exact hX⟩
      have r0 : refE i = 0 := by
        rw [hR, hs1]
        exact if_pos hX
      rw [packF, refPackF, if_pos t0, if_pos r0, hF, hN, hs1]
      have q1 := hw.id
      have q2 := hw.qty
      have q3 := hw.peak
      have x1 := up_zero hw.id
      have x2 : up i.member 0 = i.member := up_zero (by omega)
      have x3 : up i.price 0 = i.price := up_zero (by omega)
      have x4 := up_zero hw.qty
      have x5 := up_zero hw.peak
      have y1 := add64_zero hw.id
      have y1' := add64_zero' hw.id
      have y2 : add64 0 i.member = i.member := add64_zero (by omega)
      have y3 : add64 0 i.price = i.price := add64_zero (by omega)
      have y4 := add64_zero hw.qty
      have y5 := add64_zero hw.peak
      simp [frameF, laidF, refFieldsF, laidGo, laidStep, wholeF, upToF, numsF, iput, iget, em, es, et, ep, x1, x2, x3, x4, x5, y1, y1', y2, y3, y4, y5]
    · refine pack_err (e := 40) (by decide) ?_ ?_
      · rw [toldE, hF]
        exact if_neg (fun h => hX (by rw [← hI]; exact h.2))
      · rw [hR, hs1]
        exact if_neg hX
  · refine pack_err (e := 40) (by decide) ?_ ?_
    · rw [toldE, hF]
      refine if_neg (fun h => hs ?_)
      have := h.1
      simpa [wholeF, upToF, and_assoc] using this
    · rw [hR, hV]
      simp only [valsGo, v1, v2, v3, v4, v5, v6, v7]
      by_cases b1 : 0 ≤ i.side ∧ i.side ≤ 255
      · by_cases b2 : 0 ≤ i.type ∧ i.type ≤ 255
        · have b3 : ¬ (0 ≤ i.price ∧ i.price ≤ 4294967295) := fun b3 => hs ⟨b1, b2, b3⟩
          simp only [if_pos b1, if_pos b2, if_neg b3]
        · simp only [if_pos b1, if_neg b2]
      · simp only [if_neg b1]
end Go.Rx
