/- A part of the proof: the text E5. -/
import Derived.Test.YtdfleghechbcpaaE4
namespace Go.Rx
open Go Go.RowKit
set_option linter.unusedVariables false
set_option linter.unusedSimpArgs false
structure Event.Wf (e : Event) : Prop where
  seq : 0 ≤ e.seq ∧ e.seq ≤ 18446744073709551615
  id : 0 ≤ e.id ∧ e.id ≤ 18446744073709551615
  other : 0 ≤ e.other ∧ e.other ≤ 18446744073709551615
  target : 0 ≤ e.target ∧ e.target ≤ 18446744073709551615
  member : 0 ≤ e.member ∧ e.member ≤ 4294967295
  side : -9223372036854775808 ≤ e.side ∧ e.side ≤ 9223372036854775807
  type : -9223372036854775808 ≤ e.type ∧ e.type ≤ 9223372036854775807
  price : -9223372036854775808 ≤ e.price ∧ e.price ≤ 9223372036854775807
  qty : 0 ≤ e.qty ∧ e.qty ≤ 18446744073709551615
  peak : 0 ≤ e.peak ∧ e.peak ≤ 18446744073709551615
  reason : -9223372036854775808 ≤ e.reason ∧ e.reason ≤ 9223372036854775807
  code : -9223372036854775808 ≤ e.code ∧ e.code ≤ 9223372036854775807
theorem evStep_small {i : Event} {f : RF} {s : Event × List Int} {n : Int} (hn : -9223372036854775808 ≤ n ∧ n ≤ 9223372036854775807) (hv : eventValueF i f.tag = (n % 18446744073709551616, decide (0 ≤ n))) (hm : 0 < f.most ∧ f.most ≤ 4294967295) :
    evStepF i f s = if 0 ≤ n ∧ n ≤ f.most then some (withEventF s.1 f.tag (n % 18446744073709551616), s.2 ++ [n % 18446744073709551616]) else none := by
  unfold evStepF
  rw [hv]
  by_cases h0 : 0 ≤ n
  · have e1 : n % 18446744073709551616 = n := Int.emod_eq_of_lt h0 (by omega)
    simp only [e1, h0, decide_true, true_and]
    by_cases h1 : n ≤ f.most
    · rw [if_pos h1, if_neg (by simp), if_neg (by omega)]
    · rw [if_neg h1, if_neg (by simp), if_pos ⟨hm.1, by omega⟩]
  · rw [if_pos (by simp [h0]), if_neg (fun h => h0 h.1)]
theorem evStep_any {i : Event} {f : RF} {s : Event × List Int} {n : Int} (hv : eventValueF i f.tag = (n, true)) (hm : f.most = 0 ∨ n ≤ f.most) :
    evStepF i f s = some (withEventF s.1 f.tag n, s.2 ++ [n]) := by
  unfold evStepF
  rw [hv, if_neg (by simp), if_neg (by simp only; omega)]
theorem packEv_err {i : Event} {e : Int} (he : e ≠ 0) (h1 : toldEvE i = e) (h2 : refEvE i = e) : packEvF i = refPackEvF i := by
  rw [packEvF, refPackEvF, if_neg (by rw [h1]; exact he), if_neg (by rw [h2]; exact he), h1, h2]
theorem add64_add0 (a b : Int) : add64 (add64 a b) 0 = add64 a b := add64_zero' (add64_range a b)
theorem packEv_1 {e : Event} (hw : e.Wf) (h1 : e.kind = 1) : packEvF e = refPackEvF e := by
  have hF : evFieldsF e = some (evFields1 e) := by rw [evFieldsF, if_pos h1]
  have hR : refEvE e = match evValsGo e (toldRF 1) (ev0 1, []) with | none => 40 | some s => if s.1 = e then 0 else 40 := by
    rw [refEvE, if_neg (by omega), h1]
    rfl
  have hm := hw.member
  have em : e.member % 18446744073709551616 = e.member := Int.emod_eq_of_lt hm.1 (by omega)
  have em2 : e.member % 4294967296 = e.member := Int.emod_eq_of_lt hm.1 (by omega)
  have v0 : ∀ s, evStepF e ⟨34, 0, 0, 0⟩ s = _ := fun s => evStep_any (n := e.seq) rfl (.inl rfl)
  have v1 : ∀ s, evStepF e ⟨11, 0, 1, 0⟩ s = _ := fun s => evStep_any (n := e.id) rfl (.inl rfl)
  have v2 : ∀ s, evStepF e ⟨1, 4294967295, 3, 0⟩ s = _ := fun s => evStep_any (n := e.member % 18446744073709551616) rfl (.inr (by rw [em]; exact hm.2))
  have v3 : ∀ s, evStepF e ⟨54, 255, 3, 32⟩ s = _ := fun s => evStep_small hw.side rfl (by decide)
  have v4 : ∀ s, evStepF e ⟨40, 255, 3, 40⟩ s = _ := fun s => evStep_small hw.type rfl (by decide)
  have v5 : ∀ s, evStepF e ⟨44, 4294967295, 4, 0⟩ s = _ := fun s => evStep_small hw.price rfl (by decide)
  have v6 : ∀ s, evStepF e ⟨38, 0, 5, 0⟩ s = _ := fun s => evStep_any (n := e.qty) rfl (.inl rfl)
  have v7 : ∀ s, evStepF e ⟨210, 0, 6, 0⟩ s = _ := fun s => evStep_any (n := e.peak) rfl (.inl rfl)
  have hV : evValsGo e (toldRF 1) (ev0 1, []) = evValsGo e [⟨34, 0, 0, 0⟩, ⟨11, 0, 1, 0⟩, ⟨1, 4294967295, 3, 0⟩, ⟨54, 255, 3, 32⟩, ⟨40, 255, 3, 40⟩, ⟨44, 4294967295, 4, 0⟩, ⟨38, 0, 5, 0⟩, ⟨210, 0, 6, 0⟩] (ev0 1, []) := rfl
  by_cases hs : (0 ≤ e.side ∧ e.side ≤ 255) ∧ (0 ≤ e.type ∧ e.type ≤ 255) ∧ (0 ≤ e.price ∧ e.price ≤ 4294967295)
  · obtain ⟨b0, b1, b2⟩ := hs
    have m0 : e.side % 18446744073709551616 = e.side := Int.emod_eq_of_lt b0.1 (by omega)
    have f0 : s64 e.side = e.side := s64_in (by omega)
    have m1 : e.type % 18446744073709551616 = e.type := Int.emod_eq_of_lt b1.1 (by omega)
    have f1 : s64 e.type = e.type := s64_in (by omega)
    have m2 : e.price % 18446744073709551616 = e.price := Int.emod_eq_of_lt b2.1 (by omega)
    have f2 : s64 e.price = e.price := s64_in (by omega)
    simp only [evValsGo, v0, v1, v2, v3, v4, v5, v6, v7, if_pos b0, if_pos b1, if_pos b2, List.nil_append, List.cons_append] at hV
    have hs1 : evValsGo e (toldRF 1) (ev0 1, []) = some (⟨e.seq, 1, e.id, 0, 0, e.member, e.side, e.type, e.price, e.qty, e.peak, 0, 0⟩, [e.seq, e.id, e.member, e.side, e.type, e.price, e.qty, e.peak]) := by
      rw [hV]
      simp [withEventF, ev0, m0, f0, m1, f1, m2, f2, em, em2]
    have hI : eventOfF 1 (numsF (evFields1 e)) = ⟨e.seq, 1, e.id, 0, 0, e.member, e.side, e.type, e.price, e.qty, e.peak, 0, 0⟩ := by
      simp [evFields1, wholeF, upToF, numsF, iput, eventOfF, iget, m0, f0, m1, f1, m2, f2, em, em2]
      all_goals first | rfl | exact ⟨rfl, rfl⟩ | exact ⟨rfl, rfl, rfl⟩ | exact ⟨rfl, rfl, rfl, rfl⟩ | exact ⟨rfl, rfl, rfl, rfl, rfl⟩
    have hA : ((evFields1 e).all (·.fits)) = true := by
      simp [evFields1, wholeF, upToF, b0, b1, b2]
    by_cases hX : (⟨e.seq, 1, e.id, 0, 0, e.member, e.side, e.type, e.price, e.qty, e.peak, 0, 0⟩ : Event) = e
    · have t0 : toldEvE e = 0 := by
        rw [toldEvE, hF]
        exact if_pos ⟨hA, by rw [h1, hI]; exact hX⟩
      have r0 : refEvE e = 0 := by
        rw [hR, hs1]
        exact if_pos hX
      rw [packEvF, refPackEvF, if_pos t0, if_pos r0, hF, h1, hs1]
      have x0 : up e.seq 0 = e.seq := up_zero hw.seq
      have y0 : add64 0 e.seq = e.seq := add64_zero hw.seq
      have z0 : add64 e.seq 0 = e.seq := add64_zero' hw.seq
      have x1 : up e.id 0 = e.id := up_zero hw.id
      have y1 : add64 0 e.id = e.id := add64_zero hw.id
      have z1 : add64 e.id 0 = e.id := add64_zero' hw.id
      have x2 : up e.member 0 = e.member := up_zero (by omega)
      have y2 : add64 0 e.member = e.member := add64_zero (by omega)
      have z2 : add64 e.member 0 = e.member := add64_zero' (by omega)
      have x3 : up e.side 0 = e.side := up_zero (by omega)
      have y3 : add64 0 e.side = e.side := add64_zero (by omega)
      have z3 : add64 e.side 0 = e.side := add64_zero' (by omega)
      have x4 : up e.type 0 = e.type := up_zero (by omega)
      have y4 : add64 0 e.type = e.type := add64_zero (by omega)
      have z4 : add64 e.type 0 = e.type := add64_zero' (by omega)
      have x5 : up e.price 0 = e.price := up_zero (by omega)
      have y5 : add64 0 e.price = e.price := add64_zero (by omega)
      have z5 : add64 e.price 0 = e.price := add64_zero' (by omega)
      have x6 : up e.qty 0 = e.qty := up_zero hw.qty
      have y6 : add64 0 e.qty = e.qty := add64_zero hw.qty
      have z6 : add64 e.qty 0 = e.qty := add64_zero' hw.qty
      have x7 : up e.peak 0 = e.peak := up_zero hw.peak
      have y7 : add64 0 e.peak = e.peak := add64_zero hw.peak
      have z7 : add64 e.peak 0 = e.peak := add64_zero' hw.peak
      have zz : add64 0 0 = 0 := rfl
      simp [evFrameF, laidF, toldRF, laidGo, laidStep, evFields1, wholeF, upToF, numsF, iput, iget, up_none, add64_add0, zz, m0, f0, m1, f1, m2, f2, em, em2, x0, y0, z0, x1, y1, z1, x2, y2, z2, x3, y3, z3, x4, y4, z4, x5, y5, z5, x6, y6, z6, x7, y7, z7]
    · refine packEv_err (e := 40) (by decide) ?_ ?_
      · rw [toldEvE, hF]
        exact if_neg (fun h => hX (by rw [← hI, ← h1]; exact h.2))
      · rw [hR, hs1]
        exact if_neg hX
  · refine packEv_err (e := 40) (by decide) ?_ ?_
    · rw [toldEvE, hF]
      refine if_neg (fun h => hs ?_)
      have := h.1
      simpa [evFields1, wholeF, upToF, and_assoc] using this
    · rw [hR, hV]
      simp only [evValsGo, v0, v1, v2, v3, v4, v5, v6, v7]
      by_cases b0 : 0 ≤ e.side ∧ e.side ≤ 255
      · skip
        by_cases b1 : 0 ≤ e.type ∧ e.type ≤ 255
        · skip
          have b2 : ¬ (0 ≤ e.price ∧ e.price ≤ 4294967295) := fun b2 => hs ⟨b0, b1, b2⟩
          simp only [if_pos b0, if_pos b1, if_neg b2]
        · simp only [if_pos b0, if_neg b1]
      · simp only [if_neg b0]
theorem packEv_2 {e : Event} (hw : e.Wf) (h1 : e.kind = 2) : packEvF e = refPackEvF e := by
  have hF : evFieldsF e = some (evFields2 e) := by rw [evFieldsF, if_neg (by omega), if_pos h1]
  have hR : refEvE e = match evValsGo e (toldRF 2) (ev0 2, []) with | none => 40 | some s => if s.1 = e then 0 else 40 := by
    rw [refEvE, if_neg (by omega), h1]
    rfl
  have hm := hw.member
  have em : e.member % 18446744073709551616 = e.member := Int.emod_eq_of_lt hm.1 (by omega)
  have em2 : e.member % 4294967296 = e.member := Int.emod_eq_of_lt hm.1 (by omega)
  have v0 : ∀ s, evStepF e ⟨34, 0, 0, 0⟩ s = _ := fun s => evStep_any (n := e.seq) rfl (.inl rfl)
  have v1 : ∀ s, evStepF e ⟨11, 0, 1, 0⟩ s = _ := fun s => evStep_any (n := e.id) rfl (.inl rfl)
  have v2 : ∀ s, evStepF e ⟨41, 0, 2, 0⟩ s = _ := fun s => evStep_any (n := e.target) rfl (.inl rfl)
  have v3 : ∀ s, evStepF e ⟨103, 4294967295, 4, 32⟩ s = _ := fun s => evStep_small hw.code rfl (by decide)
  have hV : evValsGo e (toldRF 2) (ev0 2, []) = evValsGo e [⟨34, 0, 0, 0⟩, ⟨11, 0, 1, 0⟩, ⟨41, 0, 2, 0⟩, ⟨103, 4294967295, 4, 32⟩] (ev0 2, []) := rfl
  by_cases hs : (0 ≤ e.code ∧ e.code ≤ 4294967295)
  · have b0 := hs
    have m0 : e.code % 18446744073709551616 = e.code := Int.emod_eq_of_lt b0.1 (by omega)
    have f0 : s64 e.code = e.code := s64_in (by omega)
    simp only [evValsGo, v0, v1, v2, v3, if_pos b0, List.nil_append, List.cons_append] at hV
    have hs1 : evValsGo e (toldRF 2) (ev0 2, []) = some (⟨e.seq, 2, e.id, 0, e.target, 0, 0, 0, 0, 0, 0, 0, e.code⟩, [e.seq, e.id, e.target, e.code]) := by
      rw [hV]
      simp [withEventF, ev0, m0, f0, em, em2]
    have hI : eventOfF 2 (numsF (evFields2 e)) = ⟨e.seq, 2, e.id, 0, e.target, 0, 0, 0, 0, 0, 0, 0, e.code⟩ := by
      simp [evFields2, wholeF, upToF, numsF, iput, eventOfF, iget, m0, f0, em, em2]
      all_goals first | rfl | exact ⟨rfl, rfl⟩ | exact ⟨rfl, rfl, rfl⟩ | exact ⟨rfl, rfl, rfl, rfl⟩ | exact ⟨rfl, rfl, rfl, rfl, rfl⟩
    have hA : ((evFields2 e).all (·.fits)) = true := by
      simp [evFields2, wholeF, upToF, b0]
    by_cases hX : (⟨e.seq, 2, e.id, 0, e.target, 0, 0, 0, 0, 0, 0, 0, e.code⟩ : Event) = e
    · have t0 : toldEvE e = 0 := by
        rw [toldEvE, hF]
        exact if_pos ⟨hA, by rw [h1, hI]; exact hX⟩
      have r0 : refEvE e = 0 := by
        rw [hR, hs1]
        exact if_pos hX
      rw [packEvF, refPackEvF, if_pos t0, if_pos r0, hF, h1, hs1]
      have x0 : up e.seq 0 = e.seq := up_zero hw.seq
      have y0 : add64 0 e.seq = e.seq := add64_zero hw.seq
      have z0 : add64 e.seq 0 = e.seq := add64_zero' hw.seq
      have x1 : up e.id 0 = e.id := up_zero hw.id
      have y1 : add64 0 e.id = e.id := add64_zero hw.id
      have z1 : add64 e.id 0 = e.id := add64_zero' hw.id
      have x2 : up e.target 0 = e.target := up_zero hw.target
      have y2 : add64 0 e.target = e.target := add64_zero hw.target
      have z2 : add64 e.target 0 = e.target := add64_zero' hw.target
      have x3 : up e.code 0 = e.code := up_zero (by omega)
      have y3 : add64 0 e.code = e.code := add64_zero (by omega)
      have z3 : add64 e.code 0 = e.code := add64_zero' (by omega)
      have zz : add64 0 0 = 0 := rfl
      simp [evFrameF, laidF, toldRF, laidGo, laidStep, evFields2, wholeF, upToF, numsF, iput, iget, up_none, add64_add0, zz, m0, f0, em, em2, x0, y0, z0, x1, y1, z1, x2, y2, z2, x3, y3, z3]
    · refine packEv_err (e := 40) (by decide) ?_ ?_
      · rw [toldEvE, hF]
        exact if_neg (fun h => hX (by rw [← hI, ← h1]; exact h.2))
      · rw [hR, hs1]
        exact if_neg hX
  · refine packEv_err (e := 40) (by decide) ?_ ?_
    · rw [toldEvE, hF]
      refine if_neg (fun h => hs ?_)
      have := h.1
      simpa [evFields2, wholeF, upToF, and_assoc] using this
    · rw [hR, hV]
      simp only [evValsGo, v0, v1, v2, v3]
      have b0 : ¬ (0 ≤ e.code ∧ e.code ≤ 4294967295) := fun b0 => hs b0
      simp only [if_neg b0]
theorem packEv_3 {e : Event} (hw : e.Wf) (h1 : e.kind = 3) : packEvF e = refPackEvF e := by
  have hF : evFieldsF e = some (evFields3 e) := by rw [evFieldsF, if_neg (by omega), if_neg (by omega), if_pos h1]
  have hR : refEvE e = match evValsGo e (toldRF 3) (ev0 3, []) with | none => 40 | some s => if s.1 = e then 0 else 40 := by
    rw [refEvE, if_neg (by omega), h1]
    rfl
  have hm := hw.member
  have em : e.member % 18446744073709551616 = e.member := Int.emod_eq_of_lt hm.1 (by omega)
  have em2 : e.member % 4294967296 = e.member := Int.emod_eq_of_lt hm.1 (by omega)
  have v0 : ∀ s, evStepF e ⟨34, 0, 0, 0⟩ s = _ := fun s => evStep_any (n := e.seq) rfl (.inl rfl)
  have v1 : ∀ s, evStepF e ⟨11, 0, 1, 0⟩ s = _ := fun s => evStep_any (n := e.id) rfl (.inl rfl)
  have v2 : ∀ s, evStepF e ⟨37, 0, 2, 0⟩ s = _ := fun s => evStep_any (n := e.other) rfl (.inl rfl)
  have v3 : ∀ s, evStepF e ⟨54, 255, 3, 32⟩ s = _ := fun s => evStep_small hw.side rfl (by decide)
  have v4 : ∀ s, evStepF e ⟨44, 4294967295, 4, 0⟩ s = _ := fun s => evStep_small hw.price rfl (by decide)
  have v5 : ∀ s, evStepF e ⟨38, 0, 5, 0⟩ s = _ := fun s => evStep_any (n := e.qty) rfl (.inl rfl)
  have hV : evValsGo e (toldRF 3) (ev0 3, []) = evValsGo e [⟨34, 0, 0, 0⟩, ⟨11, 0, 1, 0⟩, ⟨37, 0, 2, 0⟩, ⟨54, 255, 3, 32⟩, ⟨44, 4294967295, 4, 0⟩, ⟨38, 0, 5, 0⟩] (ev0 3, []) := rfl
  by_cases hs : (0 ≤ e.side ∧ e.side ≤ 255) ∧ (0 ≤ e.price ∧ e.price ≤ 4294967295)
  · obtain ⟨b0, b1⟩ := hs
    have m0 : e.side % 18446744073709551616 = e.side := Int.emod_eq_of_lt b0.1 (by omega)
    have f0 : s64 e.side = e.side := s64_in (by omega)
    have m1 : e.price % 18446744073709551616 = e.price := Int.emod_eq_of_lt b1.1 (by omega)
    have f1 : s64 e.price = e.price := s64_in (by omega)
    simp only [evValsGo, v0, v1, v2, v3, v4, v5, if_pos b0, if_pos b1, List.nil_append, List.cons_append] at hV
    have hs1 : evValsGo e (toldRF 3) (ev0 3, []) = some (⟨e.seq, 3, e.id, e.other, 0, 0, e.side, 0, e.price, e.qty, 0, 0, 0⟩, [e.seq, e.id, e.other, e.side, e.price, e.qty]) := by
      rw [hV]
      simp [withEventF, ev0, m0, f0, m1, f1, em, em2]
    have hI : eventOfF 3 (numsF (evFields3 e)) = ⟨e.seq, 3, e.id, e.other, 0, 0, e.side, 0, e.price, e.qty, 0, 0, 0⟩ := by
      simp [evFields3, wholeF, upToF, numsF, iput, eventOfF, iget, m0, f0, m1, f1, em, em2]
      all_goals first | rfl | exact ⟨rfl, rfl⟩ | exact ⟨rfl, rfl, rfl⟩ | exact ⟨rfl, rfl, rfl, rfl⟩ | exact ⟨rfl, rfl, rfl, rfl, rfl⟩
    have hA : ((evFields3 e).all (·.fits)) = true := by
      simp [evFields3, wholeF, upToF, b0, b1]
    by_cases hX : (⟨e.seq, 3, e.id, e.other, 0, 0, e.side, 0, e.price, e.qty, 0, 0, 0⟩ : Event) = e
    · have t0 : toldEvE e = 0 := by
        rw [toldEvE, hF]
        exact if_pos ⟨hA, by rw [h1, hI]; exact hX⟩
      have r0 : refEvE e = 0 := by
        rw [hR, hs1]
        exact if_pos hX
      rw [packEvF, refPackEvF, if_pos t0, if_pos r0, hF, h1, hs1]
      have x0 : up e.seq 0 = e.seq := up_zero hw.seq
      have y0 : add64 0 e.seq = e.seq := add64_zero hw.seq
      have z0 : add64 e.seq 0 = e.seq := add64_zero' hw.seq
      have x1 : up e.id 0 = e.id := up_zero hw.id
      have y1 : add64 0 e.id = e.id := add64_zero hw.id
      have z1 : add64 e.id 0 = e.id := add64_zero' hw.id
      have x2 : up e.other 0 = e.other := up_zero hw.other
      have y2 : add64 0 e.other = e.other := add64_zero hw.other
      have z2 : add64 e.other 0 = e.other := add64_zero' hw.other
      have x3 : up e.side 0 = e.side := up_zero (by omega)
      have y3 : add64 0 e.side = e.side := add64_zero (by omega)
      have z3 : add64 e.side 0 = e.side := add64_zero' (by omega)
      have x4 : up e.price 0 = e.price := up_zero (by omega)
      have y4 : add64 0 e.price = e.price := add64_zero (by omega)
      have z4 : add64 e.price 0 = e.price := add64_zero' (by omega)
      have x5 : up e.qty 0 = e.qty := up_zero hw.qty
      have y5 : add64 0 e.qty = e.qty := add64_zero hw.qty
      have z5 : add64 e.qty 0 = e.qty := add64_zero' hw.qty
      have zz : add64 0 0 = 0 := rfl
      simp [evFrameF, laidF, toldRF, laidGo, laidStep, evFields3, wholeF, upToF, numsF, iput, iget, up_none, add64_add0, zz, m0, f0, m1, f1, em, em2, x0, y0, z0, x1, y1, z1, x2, y2, z2, x3, y3, z3, x4, y4, z4, x5, y5, z5]
    · refine packEv_err (e := 40) (by decide) ?_ ?_
      · rw [toldEvE, hF]
        exact if_neg (fun h => hX (by rw [← hI, ← h1]; exact h.2))
      · rw [hR, hs1]
        exact if_neg hX
  · refine packEv_err (e := 40) (by decide) ?_ ?_
    · rw [toldEvE, hF]
      refine if_neg (fun h => hs ?_)
      have := h.1
      simpa [evFields3, wholeF, upToF, and_assoc] using this
    · rw [hR, hV]
      simp only [evValsGo, v0, v1, v2, v3, v4, v5]
      by_cases b0 : 0 ≤ e.side ∧ e.side ≤ 255
      · skip
        have b1 : ¬ (0 ≤ e.price ∧ e.price ≤ 4294967295) := fun b1 => hs ⟨b0, b1⟩
        simp only [if_pos b0, if_neg b1]
      · simp only [if_neg b0]
theorem packEv_4 {e : Event} (hw : e.Wf) (h1 : e.kind = 4) : packEvF e = refPackEvF e := by
  have hF : evFieldsF e = some (evFields4 e) := by rw [evFieldsF, if_neg (by omega), if_neg (by omega), if_neg (by omega), if_pos h1]
  have hR : refEvE e = match evValsGo e (toldRF 4) (ev0 4, []) with | none => 40 | some s => if s.1 = e then 0 else 40 := by
    rw [refEvE, if_neg (by omega), h1]
    rfl
  have hm := hw.member
  have em : e.member % 18446744073709551616 = e.member := Int.emod_eq_of_lt hm.1 (by omega)
  have em2 : e.member % 4294967296 = e.member := Int.emod_eq_of_lt hm.1 (by omega)
  have v0 : ∀ s, evStepF e ⟨34, 0, 0, 0⟩ s = _ := fun s => evStep_any (n := e.seq) rfl (.inl rfl)
  have v1 : ∀ s, evStepF e ⟨11, 0, 1, 0⟩ s = _ := fun s => evStep_any (n := e.id) rfl (.inl rfl)
  have v2 : ∀ s, evStepF e ⟨38, 0, 5, 0⟩ s = _ := fun s => evStep_any (n := e.qty) rfl (.inl rfl)
  have v3 : ∀ s, evStepF e ⟨378, 255, 3, 48⟩ s = _ := fun s => evStep_small hw.reason rfl (by decide)
  have hV : evValsGo e (toldRF 4) (ev0 4, []) = evValsGo e [⟨34, 0, 0, 0⟩, ⟨11, 0, 1, 0⟩, ⟨38, 0, 5, 0⟩, ⟨378, 255, 3, 48⟩] (ev0 4, []) := rfl
  by_cases hs : (0 ≤ e.reason ∧ e.reason ≤ 255)
  · have b0 := hs
    have m0 : e.reason % 18446744073709551616 = e.reason := Int.emod_eq_of_lt b0.1 (by omega)
    have f0 : s64 e.reason = e.reason := s64_in (by omega)
    simp only [evValsGo, v0, v1, v2, v3, if_pos b0, List.nil_append, List.cons_append] at hV
    have hs1 : evValsGo e (toldRF 4) (ev0 4, []) = some (⟨e.seq, 4, e.id, 0, 0, 0, 0, 0, 0, e.qty, 0, e.reason, 0⟩, [e.seq, e.id, e.qty, e.reason]) := by
      rw [hV]
      simp [withEventF, ev0, m0, f0, em, em2]
    have hI : eventOfF 4 (numsF (evFields4 e)) = ⟨e.seq, 4, e.id, 0, 0, 0, 0, 0, 0, e.qty, 0, e.reason, 0⟩ := by
      simp [evFields4, wholeF, upToF, numsF, iput, eventOfF, iget, m0, f0, em, em2]
      all_goals first | rfl | exact ⟨rfl, rfl⟩ | exact ⟨rfl, rfl, rfl⟩ | exact ⟨rfl, rfl, rfl, rfl⟩ | exact ⟨rfl, rfl, rfl, rfl, rfl⟩
    have hA : ((evFields4 e).all (·.fits)) = true := by
      simp [evFields4, wholeF, upToF, b0]
    by_cases hX : (⟨e.seq, 4, e.id, 0, 0, 0, 0, 0, 0, e.qty, 0, e.reason, 0⟩ : Event) = e
    · have t0 : toldEvE e = 0 := by
        rw [toldEvE, hF]
        exact if_pos ⟨hA, by rw [h1, hI]; exact hX⟩
      have r0 : refEvE e = 0 := by
        rw [hR, hs1]
        exact if_pos hX
      rw [packEvF, refPackEvF, if_pos t0, if_pos r0, hF, h1, hs1]
      have x0 : up e.seq 0 = e.seq := up_zero hw.seq
      have y0 : add64 0 e.seq = e.seq := add64_zero hw.seq
      have z0 : add64 e.seq 0 = e.seq := add64_zero' hw.seq
      have x1 : up e.id 0 = e.id := up_zero hw.id
      have y1 : add64 0 e.id = e.id := add64_zero hw.id
      have z1 : add64 e.id 0 = e.id := add64_zero' hw.id
      have x2 : up e.qty 0 = e.qty := up_zero hw.qty
      have y2 : add64 0 e.qty = e.qty := add64_zero hw.qty
      have z2 : add64 e.qty 0 = e.qty := add64_zero' hw.qty
      have x3 : up e.reason 0 = e.reason := up_zero (by omega)
      have y3 : add64 0 e.reason = e.reason := add64_zero (by omega)
      have z3 : add64 e.reason 0 = e.reason := add64_zero' (by omega)
      have zz : add64 0 0 = 0 := rfl
      simp [evFrameF, laidF, toldRF, laidGo, laidStep, evFields4, wholeF, upToF, numsF, iput, iget, up_none, add64_add0, zz, m0, f0, em, em2, x0, y0, z0, x1, y1, z1, x2, y2, z2, x3, y3, z3]
    · refine packEv_err (e := 40) (by decide) ?_ ?_
      · rw [toldEvE, hF]
        exact if_neg (fun h => hX (by rw [← hI, ← h1]; exact h.2))
      · rw [hR, hs1]
        exact if_neg hX
  · refine packEv_err (e := 40) (by decide) ?_ ?_
    · rw [toldEvE, hF]
      refine if_neg (fun h => hs ?_)
      have := h.1
      simpa [evFields4, wholeF, upToF, and_assoc] using this
    · rw [hR, hV]
      simp only [evValsGo, v0, v1, v2, v3]
      have b0 : ¬ (0 ≤ e.reason ∧ e.reason ≤ 255) := fun b0 => hs b0
      simp only [if_neg b0]
theorem packEv_5 {e : Event} (hw : e.Wf) (h1 : e.kind = 5) : packEvF e = refPackEvF e := by
  have hF : evFieldsF e = some (evFields5 e) := by rw [evFieldsF, if_neg (by omega), if_neg (by omega), if_neg (by omega), if_neg (by omega), if_pos h1]
  have hR : refEvE e = match evValsGo e (toldRF 5) (ev0 5, []) with | none => 40 | some s => if s.1 = e then 0 else 40 := by
    rw [refEvE, if_neg (by omega), h1]
    rfl
  have hm := hw.member
  have em : e.member % 18446744073709551616 = e.member := Int.emod_eq_of_lt hm.1 (by omega)
  have em2 : e.member % 4294967296 = e.member := Int.emod_eq_of_lt hm.1 (by omega)
  have v0 : ∀ s, evStepF e ⟨34, 0, 0, 0⟩ s = _ := fun s => evStep_any (n := e.seq) rfl (.inl rfl)
  have v1 : ∀ s, evStepF e ⟨11, 0, 1, 0⟩ s = _ := fun s => evStep_any (n := e.id) rfl (.inl rfl)
  have v2 : ∀ s, evStepF e ⟨44, 4294967295, 4, 0⟩ s = _ := fun s => evStep_small hw.price rfl (by decide)
  have v3 : ∀ s, evStepF e ⟨38, 0, 5, 0⟩ s = _ := fun s => evStep_any (n := e.qty) rfl (.inl rfl)
  have hV : evValsGo e (toldRF 5) (ev0 5, []) = evValsGo e [⟨34, 0, 0, 0⟩, ⟨11, 0, 1, 0⟩, ⟨44, 4294967295, 4, 0⟩, ⟨38, 0, 5, 0⟩] (ev0 5, []) := rfl
  by_cases hs : (0 ≤ e.price ∧ e.price ≤ 4294967295)
  · have b0 := hs
    have m0 : e.price % 18446744073709551616 = e.price := Int.emod_eq_of_lt b0.1 (by omega)
    have f0 : s64 e.price = e.price := s64_in (by omega)
    simp only [evValsGo, v0, v1, v2, v3, if_pos b0, List.nil_append, List.cons_append] at hV
    have hs1 : evValsGo e (toldRF 5) (ev0 5, []) = some (⟨e.seq, 5, e.id, 0, 0, 0, 0, 0, e.price, e.qty, 0, 0, 0⟩, [e.seq, e.id, e.price, e.qty]) := by
      rw [hV]
      simp [withEventF, ev0, m0, f0, em, em2]
    have hI : eventOfF 5 (numsF (evFields5 e)) = ⟨e.seq, 5, e.id, 0, 0, 0, 0, 0, e.price, e.qty, 0, 0, 0⟩ := by
      simp [evFields5, wholeF, upToF, numsF, iput, eventOfF, iget, m0, f0, em, em2]
      all_goals first | rfl | exact ⟨rfl, rfl⟩ | exact ⟨rfl, rfl, rfl⟩ | exact ⟨rfl, rfl, rfl, rfl⟩ | exact ⟨rfl, rfl, rfl, rfl, rfl⟩
    have hA : ((evFields5 e).all (·.fits)) = true := by
      simp [evFields5, wholeF, upToF, b0]
    by_cases hX : (⟨e.seq, 5, e.id, 0, 0, 0, 0, 0, e.price, e.qty, 0, 0, 0⟩ : Event) = e
    · have t0 : toldEvE e = 0 := by
        rw [toldEvE, hF]
        exact if_pos ⟨hA, by rw [h1, hI]; exact hX⟩
      have r0 : refEvE e = 0 := by
        rw [hR, hs1]
        exact if_pos hX
      rw [packEvF, refPackEvF, if_pos t0, if_pos r0, hF, h1, hs1]
      have x0 : up e.seq 0 = e.seq := up_zero hw.seq
      have y0 : add64 0 e.seq = e.seq := add64_zero hw.seq
      have z0 : add64 e.seq 0 = e.seq := add64_zero' hw.seq
      have x1 : up e.id 0 = e.id := up_zero hw.id
      have y1 : add64 0 e.id = e.id := add64_zero hw.id
      have z1 : add64 e.id 0 = e.id := add64_zero' hw.id
      have x2 : up e.price 0 = e.price := up_zero (by omega)
      have y2 : add64 0 e.price = e.price := add64_zero (by omega)
      have z2 : add64 e.price 0 = e.price := add64_zero' (by omega)
      have x3 : up e.qty 0 = e.qty := up_zero hw.qty
      have y3 : add64 0 e.qty = e.qty := add64_zero hw.qty
      have z3 : add64 e.qty 0 = e.qty := add64_zero' hw.qty
      have zz : add64 0 0 = 0 := rfl
      simp [evFrameF, laidF, toldRF, laidGo, laidStep, evFields5, wholeF, upToF, numsF, iput, iget, up_none, add64_add0, zz, m0, f0, em, em2, x0, y0, z0, x1, y1, z1, x2, y2, z2, x3, y3, z3]
    · refine packEv_err (e := 40) (by decide) ?_ ?_
      · rw [toldEvE, hF]
        exact if_neg (fun h => hX (by rw [← hI, ← h1]; exact h.2))
      · rw [hR, hs1]
        exact if_neg hX
  · refine packEv_err (e := 40) (by decide) ?_ ?_
    · rw [toldEvE, hF]
      refine if_neg (fun h => hs ?_)
      have := h.1
      simpa [evFields5, wholeF, upToF, and_assoc] using this
    · rw [hR, hV]
      simp only [evValsGo, v0, v1, v2, v3]
      have b0 : ¬ (0 ≤ e.price ∧ e.price ≤ 4294967295) := fun b0 => hs b0
      simp only [if_neg b0]
theorem packEv_none {e : Event} (h : ¬ (1 ≤ e.kind ∧ e.kind ≤ 5)) : packEvF e = refPackEvF e := by
  have hF : evFieldsF e = none := by rw [evFieldsF, if_neg (by omega), if_neg (by omega), if_neg (by omega), if_neg (by omega), if_neg (by omega)]
  refine packEv_err (e := 41) (by decide) ?_ ?_
  · rw [toldEvE, hF]
  · exact if_pos h
theorem packEv_eq {e : Event} (hw : e.Wf) : packEvF e = refPackEvF e := by
  by_cases h : 1 ≤ e.kind ∧ e.kind ≤ 5
  · have : e.kind = 1 ∨ e.kind = 2 ∨ e.kind = 3 ∨ e.kind = 4 ∨ e.kind = 5 := by omega
    rcases this with h | h | h | h | h
    · exact packEv_1 hw h
    · exact packEv_2 hw h
    · exact packEv_3 hw h
    · exact packEv_4 hw h
    · exact packEv_5 hw h
  · exact packEv_none h
end Go.Rx
