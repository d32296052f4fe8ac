/- A part of the proof: the text M7. -/
import Derived.Test.YtdfleghechbcpaaM6
namespace Go.Rx
open Go Go.RowKit
set_option linter.unusedVariables false
set_option linter.unusedSimpArgs false
theorem pack_cancel {i : Input} (hw : i.Wf) (h1 : i.kind = 1) (h2 : i.ckind = 2) : packF i = refPackF i := by
  have hF : fieldsF i = some (2, ⟨#[70]⟩, [wholeF 41 i.target]) := by
    rw [fieldsF, if_neg (by omega), if_neg (by omega), if_neg (by omega), if_pos h2]
  have hN : nameF i = 2 := by rw [nameF, if_neg (by omega), if_pos (by omega), h2]
  have hR : refE i = match valsGo i (refFieldsF 2) (bareF 2, []) with | none => 40 | some s => if s.1 = i then 0 else 40 := by
    rw [refE, hN]
    rfl
  have v0 : ∀ s, stepF i ⟨41, 0, 1, 0⟩ s = _ := fun s => step_any (n := i.target) rfl (.inl rfl)
  have hV : valsGo i (refFieldsF 2) (bareF 2, []) = valsGo i [⟨41, 0, 1, 0⟩] (bareF 2, []) := rfl
  simp only [valsGo, v0, List.nil_append, List.cons_append] at hV
  have hs1 : valsGo i (refFieldsF 2) (bareF 2, []) = some (⟨1, 2, 0, i.target, 0, 0, 0, 0, 0, 0, 0⟩, [i.target]) := by
    rw [hV]
    simp [withF, bareF]
  have hI : inputF 2 (numsF [wholeF 41 i.target]) = ⟨1, 2, 0, i.target, 0, 0, 0, 0, 0, 0, 0⟩ := by
    simp [wholeF, upToF, numsF, iput, inputF, iget]
    all_goals first | rfl | exact ⟨rfl, rfl⟩
  have hA : ([wholeF 41 i.target].all (·.fits)) = true := by
    simp [wholeF, upToF]
  by_cases hX : (⟨1, 2, 0, i.target, 0, 0, 0, 0, 0, 0, 0⟩ : Input) = i
  · have t0 : toldE i = 0 := by
      rw [toldE, hF]
      exact if_pos ⟨hA, by rw [hI]; exact hX⟩
    have r0 : refE i = 0 := by
      rw [hR, hs1]
      exact if_pos hX
    rw [packF, refPackF, if_pos t0, if_pos r0, hF, hN, hs1]
    have x0 := up_zero hw.target
    have y0 := add64_zero hw.target
    have z0 := add64_zero' hw.target
    have zz : add64 0 0 = 0 := rfl
    simp [frameF, laidF, refFieldsF, laidGo, laidStep, wholeF, upToF, numsF, iput, iget, up_none, zz, x0, y0, z0]
  · refine pack_err (e := 40) (by decide) ?_ ?_
    · rw [toldE, hF]
      exact if_neg (fun h => hX (by rw [← hI]; exact h.2))
    · rw [hR, hs1]
      exact if_neg hX
theorem pack_replace {i : Input} (hw : i.Wf) (h1 : i.kind = 1) (h2 : i.ckind = 3) : packF i = refPackF i := by
  have hF : fieldsF i = some (3, ⟨#[71]⟩, [wholeF 41 i.target, wholeF 11 i.id, upToF 44 i.price 4294967295, wholeF 38 i.qty, wholeF 210 i.peak]) := by
    rw [fieldsF, if_neg (by omega), if_neg (by omega), if_neg (by omega), if_neg (by omega), if_pos h2]
  have hN : nameF i = 3 := by rw [nameF, if_neg (by omega), if_pos (by omega), h2]
  have hR : refE i = match valsGo i (refFieldsF 3) (bareF 3, []) with | none => 40 | some s => if s.1 = i then 0 else 40 := by
    rw [refE, hN]
    rfl
  have v0 : ∀ s, stepF i ⟨41, 0, 1, 0⟩ s = _ := fun s => step_any (n := i.target) rfl (.inl rfl)
  have v1 : ∀ s, stepF i ⟨11, 0, 0, 0⟩ s = _ := fun s => step_any (n := i.id) rfl (.inl rfl)
  have v2 : ∀ s, stepF i ⟨44, 4294967295, 3, 0⟩ s = _ := fun s => step_small hw.price rfl (by decide)
  have v3 : ∀ s, stepF i ⟨38, 0, 4, 0⟩ s = _ := fun s => step_any (n := i.qty) rfl (.inl rfl)
  have v4 : ∀ s, stepF i ⟨210, 0, 5, 0⟩ s = _ := fun s => step_any (n := i.peak) rfl (.inl rfl)
  have hV : valsGo i (refFieldsF 3) (bareF 3, []) = valsGo i [⟨41, 0, 1, 0⟩, ⟨11, 0, 0, 0⟩, ⟨44, 4294967295, 3, 0⟩, ⟨38, 0, 4, 0⟩, ⟨210, 0, 5, 0⟩] (bareF 3, []) := rfl
  by_cases b : 0 ≤ i.price ∧ i.price ≤ 4294967295
  · have em : i.price % 18446744073709551616 = i.price := Int.emod_eq_of_lt b.1 (by omega)
    have fm : s64 i.price = i.price := s64_in (by omega)
    simp only [valsGo, v0, v1, v2, v3, v4, if_pos b, List.nil_append, List.cons_append] at hV
    have hs1 : valsGo i (refFieldsF 3) (bareF 3, []) = some (⟨1, 3, i.id, i.target, 0, 0, 0, i.price, i.qty, i.peak, 0⟩, [i.target, i.id, i.price, i.qty, i.peak]) := by
      rw [hV]
      simp [withF, bareF, em, fm]
    have hI : inputF 3 (numsF [wholeF 41 i.target, wholeF 11 i.id, upToF 44 i.price 4294967295, wholeF 38 i.qty, wholeF 210 i.peak]) = ⟨1, 3, i.id, i.target, 0, 0, 0, i.price, i.qty, i.peak, 0⟩ := by
      simp [wholeF, upToF, numsF, iput, inputF, iget, em, fm]
      all_goals first | rfl | exact ⟨rfl, rfl⟩
    have hA : ([wholeF 41 i.target, wholeF 11 i.id, upToF 44 i.price 4294967295, wholeF 38 i.qty, wholeF 210 i.peak].all (·.fits)) = true := by
      simp [wholeF, upToF, b]
    by_cases hX : (⟨1, 3, i.id, i.target, 0, 0, 0, i.price, i.qty, i.peak, 0⟩ : Input) = i
    · have t0 : toldE i = 0 := by
        rw [toldE, hF]
        exact if_pos ⟨hA, by rw [hI]; exact hX⟩
      have r0 : refE i = 0 := by
        rw [hR, hs1]
        exact if_pos hX
      rw [packF, refPackF, if_pos t0, if_pos r0, hF, hN, hs1]
      have x0 := up_zero hw.target
      have y0 := add64_zero hw.target
      have z0 := add64_zero' hw.target
      have x1 := up_zero hw.id
      have y1 := add64_zero hw.id
      have z1 := add64_zero' hw.id
      have x2 : up i.price 0 = i.price := up_zero (by omega)
      have y2 : add64 0 i.price = i.price := add64_zero (by omega)
      have z2 : add64 i.price 0 = i.price := add64_zero' (by omega)
      have x3 := up_zero hw.qty
      have y3 := add64_zero hw.qty
      have z3 := add64_zero' hw.qty
      have x4 := up_zero hw.peak
      have y4 := add64_zero hw.peak
      have z4 := add64_zero' hw.peak
      have zz : add64 0 0 = 0 := rfl
      simp [frameF, laidF, refFieldsF, laidGo, laidStep, wholeF, upToF, numsF, iput, iget, up_none, zz, em, x0, y0, z0, x1, y1, z1, x2, y2, z2, x3, y3, z3, x4, y4, z4]
    · refine pack_err (e := 40) (by decide) ?_ ?_
      · rw [toldE, hF]
        exact if_neg (fun h => hX (by rw [← hI]; exact h.2))
      · rw [hR, hs1]
        exact if_neg hX
  · refine pack_err (e := 40) (by decide) ?_ ?_
    · rw [toldE, hF]
      refine if_neg (fun h => b ?_)
      have := h.1
      simpa [wholeF, upToF, and_assoc] using this
    · rw [hR, hV]
      simp only [valsGo, v0, v1, v2, v3, v4, if_neg b]
theorem pack_engine {i : Input} (hw : i.Wf) (h1 : i.kind = 2) : packF i = refPackF i := by
  have hF : fieldsF i = some (4, ⟨#[85, 69]⟩, [upToF 9001 i.engine 255]) := by
    rw [fieldsF, if_pos h1]
  have hN : nameF i = 4 := by rw [nameF, if_pos h1]
  have hR : refE i = match valsGo i (refFieldsF 4) (bareF 4, []) with | none => 40 | some s => if s.1 = i then 0 else 40 := by
    rw [refE, hN]
    rfl
  have v0 : ∀ s, stepF i ⟨9001, 255, 0, 0⟩ s = _ := fun s => step_small hw.engine rfl (by decide)
  have hV : valsGo i (refFieldsF 4) (bareF 4, []) = valsGo i [⟨9001, 255, 0, 0⟩] (bareF 4, []) := rfl
  by_cases b : 0 ≤ i.engine ∧ i.engine ≤ 255
  · have em : i.engine % 18446744073709551616 = i.engine := Int.emod_eq_of_lt b.1 (by omega)
    have fm : s64 i.engine = i.engine := s64_in (by omega)
    simp only [valsGo, v0, if_pos b, List.nil_append, List.cons_append] at hV
    have hs1 : valsGo i (refFieldsF 4) (bareF 4, []) = some (⟨2, 0, 0, 0, 0, 0, 0, 0, 0, 0, i.engine⟩, [i.engine]) := by
      rw [hV]
      simp [withF, bareF, em, fm]
    have hI : inputF 4 (numsF [upToF 9001 i.engine 255]) = ⟨2, 0, 0, 0, 0, 0, 0, 0, 0, 0, i.engine⟩ := by
      simp [wholeF, upToF, numsF, iput, inputF, iget, em, fm]
      all_goals first | rfl | exact ⟨rfl, rfl⟩
    have hA : ([upToF 9001 i.engine 255].all (·.fits)) = true := by
      simp [wholeF, upToF, b]
    by_cases hX : (⟨2, 0, 0, 0, 0, 0, 0, 0, 0, 0, i.engine⟩ : Input) = i
    · have t0 : toldE i = 0 := by
        rw [toldE, hF]
        exact if_pos ⟨hA, by rw [hI]; exact hX⟩
      have r0 : refE i = 0 := by
        rw [hR, hs1]
        exact if_pos hX
      rw [packF, refPackF, if_pos t0, if_pos r0, hF, hN, hs1]
      have x0 : up i.engine 0 = i.engine := up_zero (by omega)
      have y0 : add64 0 i.engine = i.engine := add64_zero (by omega)
      have z0 : add64 i.engine 0 = i.engine := add64_zero' (by omega)
      have zz : add64 0 0 = 0 := rfl
      simp [frameF, laidF, refFieldsF, laidGo, laidStep, wholeF, upToF, numsF, iput, iget, up_none, zz, em, x0, y0, z0]
    · refine pack_err (e := 40) (by decide) ?_ ?_
      · rw [toldE, hF]
        exact if_neg (fun h => hX (by rw [← hI]; exact h.2))
      · rw [hR, hs1]
        exact if_neg hX
  · refine pack_err (e := 40) (by decide) ?_ ?_
    · rw [toldE, hF]
      refine if_neg (fun h => b ?_)
      have := h.1
      simpa [wholeF, upToF, and_assoc] using this
    · rw [hR, hV]
      simp only [valsGo, v0, if_neg b]
theorem pack_none {i : Input} (h1 : ¬ i.kind = 2) (h2 : ¬ (i.kind = 1 ∧ 1 ≤ i.ckind ∧ i.ckind ≤ 3)) : packF i = refPackF i := by
  have hF : fieldsF i = none := by
    rw [fieldsF, if_neg h1]
    by_cases h : i.kind = 1
    · rw [if_neg (by omega), if_neg (by omega), if_neg (by omega), if_neg (by omega)]
    · rw [if_pos h]
  refine pack_err (e := 41) (by decide) ?_ ?_
  · rw [toldE, hF]
  · exact if_pos (by rw [nameF, if_neg h1, if_neg h2])
theorem pack_eq {i : Input} (hw : i.Wf) : packF i = refPackF i := by
  by_cases h1 : i.kind = 2
  · exact pack_engine hw h1
  · by_cases h2 : i.kind = 1 ∧ 1 ≤ i.ckind ∧ i.ckind ≤ 3
    · have : i.ckind = 1 ∨ i.ckind = 2 ∨ i.ckind = 3 := by omega
      rcases this with h | h | h
      · exact pack_new hw h2.1 h
      · exact pack_cancel hw h2.1 h
      · exact pack_replace hw h2.1 h
    · exact pack_none h1 h2
end Go.Rx
