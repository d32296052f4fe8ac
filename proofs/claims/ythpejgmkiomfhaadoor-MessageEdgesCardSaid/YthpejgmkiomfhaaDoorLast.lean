/- The row of the law. -/
import Derived.Test.YthpejgmkiomfhaaDoorPart1
import Derived.Test.YthpejgmkiomfhaaDoorPart4
import Derived.Test.YthpejgmkiomfhaaDoorTie
import Derived.Test.YthpejgmkiomfhaaDoorCards
import Derived.SevenTiedAt
import Derived.Below
import Derived.ChangeOld
import Derived.ShutString
import Derived.ChangeSame
import Derived.ChangeVars
import Derived.JoinedOf
set_option linter.unusedVariables false
set_option linter.unusedSimpArgs false
/- The row and the tied card of bourselaw04.MessageEdges. -/
namespace Go.Rx
open Go Go.RowKit Go.WideShapes
set_option linter.unusedVariables false
set_option maxRecDepth 100000 in
theorem open_command {H : Type} {enc : TypeId × Value → H} {W : World} {base : Nat} {v : Value} {d : DataW H} {p : List MemPlace} (hv : Value.okWide Go.Proofs.Tryd.prog W .any base 25 v) (h : DataW.Trod enc Go.Proofs.Tryd.prog W 0 (fun _ => true) true 25 v d p) :
    ∃ i : Input, v = .agg i.cmd.toArray ∧ NewI { i with ckind := 1, target := 0 } := by
  obtain ⟨cs, rfl, hcs⟩ := okWide_struct Go.Proofs.Tryd.underlying25 hv
  obtain ⟨fuel, hf⟩ := h
  have hp := trod_plain 20 _ _ so.api_Command fuel _ _ hf
  have e : (Value.agg cs).cells.toList = cs.toList := rfl
  rw [e] at hp
  obtain ⟨ha, hb⟩ := hp
  obtain ⟨c0, r0, q0, i0, ha⟩ := areSorts_cons ha
  obtain ⟨c1, r1, rfl, i1, ha⟩ := areSorts_cons ha
  obtain ⟨c2, r2, rfl, i2, ha⟩ := areSorts_cons ha
  obtain ⟨c3, r3, rfl, i3, ha⟩ := areSorts_cons ha
  obtain ⟨c4, r4, rfl, i4, ha⟩ := areSorts_cons ha
  obtain ⟨c5, r5, rfl, i5, ha⟩ := areSorts_cons ha
  obtain ⟨c6, r6, rfl, i6, ha⟩ := areSorts_cons ha
  obtain ⟨c7, r7, rfl, i7, ha⟩ := areSorts_cons ha
  obtain ⟨c8, r8, rfl, i8, ha⟩ := areSorts_cons ha
  obtain rfl := areSorts_nil ha
  rw [q0] at hb
  simp only [List.all_cons, List.all_nil, Bool.and_true, Bool.and_eq_true] at hb
  obtain ⟨n0, rfl, w0⟩ := isSort_int' i0 hb.1
  obtain ⟨n1, rfl, w1⟩ := isSort_int' i1 hb.2.1
  obtain ⟨n2, rfl, w2⟩ := isSort_int' i2 hb.2.2.1
  obtain ⟨n3, rfl, w3⟩ := isSort_int' i3 hb.2.2.2.1
  obtain ⟨n4, rfl, w4⟩ := isSort_int' i4 hb.2.2.2.2.1
  obtain ⟨n5, rfl, w5⟩ := isSort_int' i5 hb.2.2.2.2.2.1
  obtain ⟨n6, rfl, w6⟩ := isSort_int' i6 hb.2.2.2.2.2.2.1
  obtain ⟨n7, rfl, w7⟩ := isSort_int' i7 hb.2.2.2.2.2.2.2.1
  obtain ⟨n8, rfl, w8⟩ := isSort_int' i8 hb.2.2.2.2.2.2.2.2
  refine ⟨⟨1, n0, n1, n2, n3, n4, n5, n6, n7, n8, 0⟩, ?_, ⟨⟨by show (-9223372036854775808 : Int) ≤ 1 ∧ (1 : Int) ≤ 9223372036854775807; decide, wf_bounds w1, by show (0 : Int) ≤ 0 ∧ (0 : Int) ≤ 18446744073709551615; decide, wf_bounds w3, wf_bounds w4, wf_bounds w5, wf_bounds w6, wf_bounds w7, wf_bounds w8, by show (-9223372036854775808 : Int) ≤ 0 ∧ (0 : Int) ≤ 9223372036854775807; decide⟩, rfl, rfl, rfl, rfl⟩⟩
  congr 1
  apply Array.ext'
  rw [q0]
  rfl
end Go.Rx
namespace Go.Proofs.YthpejgmkiomfhaaDoor
open Go Go.RowKit Go.WideShapes Go.ChangeShapes Go.ChangeAt Go.Rx
set_option linter.unusedVariables false
set_option maxRecDepth 100000 in
theorem messageEdges_lifted (os : Os) (started : os.Started) (H : Type) (enc : TypeId × Value → H) :
    ReturnsInHanded {} Tryd.checked os 4 .any (fun w args => (Rows.messageEdgesSpec.pre enc Tryd.prog Tryd.f4 [] false w args ∧ laidMetH Tryd.prog theLaid w) ∧ sizedMet enc Tryd.prog Tryd.f4 (OpenSpec.ofChange Rows.messageEdgesSpec) false w args) (Rows.messageEdgesSpec.post enc Tryd.prog Tryd.f4 false true false false) := by
  refine returnsInHanded_of_change_and (C := Tryd.checked) (X := fun w _ => laidMetH Tryd.prog theLaid w) (fun _ _ _ hh h => h.of_heap hh) Tryd.own started (by kernel_rfl) Tryd.func4
    (ChangeSpec.witness_at (enc := enc) (C := Tryd.checked) (os := os) (X := fun w _ => laidMetH Tryd.prog theLaid w) false (laidWorld os) #[.agg #[.int .i64 0, .int .u64 0, .int .u64 0, .int .u32 0, .int .i64 0, .int .i64 0, .int .i64 0, .int .u64 0, .int .u64 0], .int .i64 0] 8 rfl (by kernel_rfl) (by kernel_rfl) (by kernel_rfl) (by kernel_rfl) (by kernel_rfl) (laidWorld_met os _)) ?_
  intro W base args ds gs before hval0 hW hcnd hsz0 hLaid _
  have hL := laid_of_met (met_plain hLaid)
  have hsz : (DataW.weightsEach Tryd.prog (Tryd.f4.params.toList ++ Rows.messageEdgesSpec.plain.varTypes Tryd.prog) (ds ++ gs)).all (· ≤ reachBytes) = true := hsz0
  have hval : ∀ (j : Nat) t v, Tryd.f4.params[j]? = some t → args[j]? = some v → Value.okWide Tryd.prog W .any base t v := hval0
  have hW' := hW
  obtain ⟨p, q, hA0, hV, rfl, hfz, hnd⟩ := hW
  have hA : DataW.TrodAll enc Tryd.prog W 0 (fun _ => true) true Tryd.f4.params.toList args.toList ds p := hA0
  rw [Tryd.params4] at hA hval hsz
  obtain ⟨v0, vs0, d0, ds0, p0, q0, hargs, rfl, rfl, h0, r0⟩ := trodAll_cons hA
  obtain ⟨v1, vs1, d1, ds1, p1, q1, rfl, rfl, rfl, h1, r1⟩ := trodAll_cons r0
  obtain ⟨rfl, rfl, rfl⟩ := trodAll_nil r1
  obtain rfl : args = #[v0, v1] := by cases args; simp_all
  obtain ⟨rfl, rfl⟩ := trodVars_none hV
  have k0 := h0
  have lt0 : ∀ x ∈ p0, x.block < W.heap.size := by obtain ⟨m, hm⟩ := k0; exact DataW.trod_lt m _ _ _ hm
  have hv0 := hval 0 25 v0 rfl rfl
  have hl0 : Light Tryd.prog 25 d0 := light_arg hsz (j := 0) rfl rfl
  have k1 := h1
  have lt1 : ∀ x ∈ p1, x.block < W.heap.size := by obtain ⟨m, hm⟩ := k1; exact DataW.trod_lt m _ _ _ hm
  have hv1 := hval 1 3 v1 rfl rfl
  have hl1 : Light Tryd.prog 3 d1 := light_arg hsz (j := 1) rfl rfl
  obtain ⟨i, rfl, hi⟩ := open_command hv0 h0
  obtain ⟨f, rfl, rfl, rfl, w1⟩ := open_int Go.Proofs.Tryd.underlying3 hv1 h1
  clear hA0 hval0 hsz0 hsz
  refine (lawEdges hi (wf_bounds w1) hL).2.mono ?_
  rintro e W' ⟨_, H', rfl, hu, rfl⟩
  have bel := hu.below'
  exact ⟨_, rfl, _, _, _, [], _, [], hW', trodAll_mk1 (shut_bool Go.Proofs.Tryd.underlying4 _), (trodAll_cons_mk (Below.trod Tryd.laidOut (by kernel_rfl) (of_decide_eq_true (by kernel_rfl)) k0 bel lt0) (trodAll_cons_mk (Below.trod Tryd.laidOut (by kernel_rfl) (of_decide_eq_true (by kernel_rfl)) k1 bel lt1) trodAll_mk0)), rfl, bel.frame _, fun h => by cases h⟩
theorem messageEdges_row_holds : Rows.MessageEdgesSaid :=
  OpenClaim.holds_of_wide 4 Tryd.f4 rfl rfl rfl rfl rfl rfl rfl ⟨rfl, rfl, rfl, rfl, rfl⟩ rfl rfl rfl rfl rfl (by kernel_rfl) Tryd.func4 (by kernel_rfl)
    (of_decide_eq_true (by kernel_rfl)) (by unfold Func.isWrapper; first | (rw [if_pos (by decide +kernel)]; kernel_rfl) | (rw [if_neg (by decide +kernel)]; exact ⟨rfl, rfl⟩))
    (fun os started H enc _ => messageEdges_lifted os started H enc)
theorem messageEdges_holds : Rows.MessageEdgesCardSaid :=
  Claim7.holds_tied_plain_at .later [] _ _ _ _
    messageEdges_row_holds (fun _ h => by cases h) (by kernel_rfl) (fun _ h => by cases h) messageEdges_row_tie rfl ⟨rfl, rfl⟩ (by kernel_rfl) rfl
    (fun f fn hf hfn => by
      obtain rfl : f = 4 := Option.some.inj ((show Tryd.prog.funcNamed "bourse/bourselaw04.MessageEdges" = some 4 by kernel_rfl).symm.trans hf) |>.symm
      obtain rfl : fn = Tryd.f4 := (Option.some.inj (Tryd.func4.symm.trans hfn)).symm
      refine ⟨by kernel_rfl, fun j t ht => ?_⟩
      rw [Tryd.params4] at ht
      have hm : t ∈ [25, 3] := by
        have h2 := Array.mem_of_getElem? ht
        simpa using h2
      have hall : ∀ t ∈ [25, 3], Tryd.prog.wantsStandIn t = false := by
        intro t ht
        simp only [List.mem_cons, List.not_mem_nil, or_false] at ht
        rcases ht with rfl | rfl <;> kernel_rfl
      exact hall t hm)
    (by kernel_rfl)
#print axioms messageEdges_holds
end Go.Proofs.YthpejgmkiomfhaaDoor
