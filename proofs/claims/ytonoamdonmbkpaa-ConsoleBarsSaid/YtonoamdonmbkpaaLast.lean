/- The row of the law. -/
import Derived.Test.YtonoamdonmbkpaaPart2
import Derived.Test.YtonoamdonmbkpaaRows
import Derived.Below
import Derived.ChangeOld
import Derived.ShutString
set_option linter.unusedVariables false
set_option linter.unusedSimpArgs false
/- The row of bourselaw27.ConsoleBars. -/
namespace Go.Rx
open Go Go.RowKit Go.WideShapes
set_option linter.unusedVariables false
set_option linter.unusedSimpArgs false
theorem lawBars {w : World} {v : Value} {es : List Event} {each cut : Int} (he : RSl Event.enc 13 w [] v es) (hlim : es.length * 104 ≤ 140737488355328) (hq : goodQ es) :
    Spec Go.Proofs.Try.prog 3 #[v, .int .i64 each, .int .i64 cut] w [] (fun u _ => u = .bool true) := by
  by_cases hc : 0 ≤ cut ∧ cut ≤ es.length
  · exact lawBarsIn he hlim hq hc
  · exact lawBarsOut he hlim hq (by omega)

def Event.dec (cs : List Value) : Event := ⟨numAt cs 0, numAt cs 1, numAt cs 2, numAt cs 3, numAt cs 4, numAt cs 5, numAt cs 6, numAt cs 7, numAt cs 8, numAt cs 9, numAt cs 10, numAt cs 11, numAt cs 12⟩
theorem Event.enc_dec (cs : List Value) (h : areSorts [.int .u64, .int .i64, .int .u64, .int .u64, .int .u64, .int .u32, .int .i64, .int .i64, .int .i64, .int .u64, .int .u64, .int .i64, .int .i64] cs = true) : (Event.dec cs).enc = cs := by
  obtain ⟨c0, r0, rfl, h0, h⟩ := areSorts_cons h
  obtain ⟨c1, r1, rfl, h1, h⟩ := areSorts_cons h
  obtain ⟨c2, r2, rfl, h2, h⟩ := areSorts_cons h
  obtain ⟨c3, r3, rfl, h3, h⟩ := areSorts_cons h
  obtain ⟨c4, r4, rfl, h4, h⟩ := areSorts_cons h
  obtain ⟨c5, r5, rfl, h5, h⟩ := areSorts_cons h
  obtain ⟨c6, r6, rfl, h6, h⟩ := areSorts_cons h
  obtain ⟨c7, r7, rfl, h7, h⟩ := areSorts_cons h
  obtain ⟨c8, r8, rfl, h8, h⟩ := areSorts_cons h
  obtain ⟨c9, r9, rfl, h9, h⟩ := areSorts_cons h
  obtain ⟨c10, r10, rfl, h10, h⟩ := areSorts_cons h
  obtain ⟨c11, r11, rfl, h11, h⟩ := areSorts_cons h
  obtain ⟨c12, r12, rfl, h12, h⟩ := areSorts_cons h
  obtain rfl := areSorts_nil h
  obtain ⟨n0, rfl⟩ := isSort_int h0
  obtain ⟨n1, rfl⟩ := isSort_int h1
  obtain ⟨n2, rfl⟩ := isSort_int h2
  obtain ⟨n3, rfl⟩ := isSort_int h3
  obtain ⟨n4, rfl⟩ := isSort_int h4
  obtain ⟨n5, rfl⟩ := isSort_int h5
  obtain ⟨n6, rfl⟩ := isSort_int h6
  obtain ⟨n7, rfl⟩ := isSort_int h7
  obtain ⟨n8, rfl⟩ := isSort_int h8
  obtain ⟨n9, rfl⟩ := isSort_int h9
  obtain ⟨n10, rfl⟩ := isSort_int h10
  obtain ⟨n11, rfl⟩ := isSort_int h11
  obtain ⟨n12, rfl⟩ := isSort_int h12
  rfl
theorem u64_bounds {z : Int} (h : (Lit.int .u64 z).wf = true) : 0 ≤ z ∧ z ≤ 18446744073709551615 := by
  unfold Lit.wf at h
  rw [Bool.and_eq_true] at h
  have e1 : IntKind.u64.min = 0 := rfl
  have e2 : IntKind.u64.max = 18446744073709551615 := rfl
  have h1 := of_decide_eq_true h.1
  have h2 := of_decide_eq_true h.2
  omega
theorem good_of_wf {xs : List Event} (h : ∀ x ∈ xs, areSorts [.int .u64, .int .i64, .int .u64, .int .u64, .int .u64, .int .u32, .int .i64, .int .i64, .int .i64, .int .u64, .int .u64, .int .i64, .int .i64] x.enc = true ∧ x.enc.all wfV = true) : goodQ xs := by
  intro e he
  have h1 := List.all_eq_true.1 (h e he).2 (.int .u64 e.qty) (by simp [Event.enc])
  exact u64_bounds h1
theorem open_events {H : Type} {enc : TypeId × Value → H} {W : World} {v : Value} {d : DataW H} {p : List MemPlace} (h : DataW.Trod enc Go.Proofs.Try.prog W 0 (fun _ => true) true 22 v d p) (hl : Light Go.Proofs.Try.prog 22 d) (hv : ∃ A n c, v = .slice A n c) :
    ∃ es : List Event, RSl Event.enc 13 W [] v es ∧ goodQ es ∧ es.length * 104 ≤ 140737488355328 := by
  obtain ⟨A, n, c, rfl⟩ := hv
  obtain ⟨fuel, hf⟩ := h
  obtain ⟨A2, c2, xs, h1, r1, l1, w1⟩ := open_rows (en := Event.enc) (dec := Event.dec) Go.Proofs.Try.underlying22 so.api_Event (by rw [byt.api_Event]; decide) Event.enc_dec hf hl
  rw [byt.api_Event] at l1
  have e : (Value.slice A n c).cells.toList = [.slice A n c] := rfl
  rw [e] at h1
  rw [← (List.cons.inj h1).1] at r1
  exact ⟨xs, r1, good_of_wf w1, by simp only [reachBytes] at l1; omega⟩
end Go.Rx
namespace Go.Proofs.Ytonoamdonmbkpaa
open Go Go.RowKit Go.WideShapes Go.ChangeShapes Go.ChangeAt Go.Rx
set_option linter.unusedVariables false
theorem Try.own : ownKnob Try.prog.godebug = none := by kernel_rfl
theorem Try.laidOut : laidOutB Try.prog = true := by kernel_rfl
set_option maxRecDepth 100000 in
theorem consoleBars_lifted (os : Os) (started : os.Started) (H : Type) (enc : TypeId × Value → H) :
    ReturnsInHanded {} Try.checked os 3 .any (Rows.consoleBarsSpec.pre6 enc Try.prog Try.f3 Rows.consoleBarsRow.domain false) (Rows.consoleBarsSpec.post enc Try.prog Try.f3 false true false false) := by
  refine returnsInHanded_of_change_sized (C := Try.checked) Try.own started (by kernel_rfl) Try.func3
    (ChangeSpec.witness6 (enc := enc) (C := Try.checked) false ⟨#[], #[.slice none 0 0, .int .i64 0, .int .i64 0], []⟩ 8 (by kernel_rfl) (by kernel_rfl) (by kernel_rfl) (by kernel_rfl)) ?_
  intro W base args ds gs before hval0 hW hcnd hsz0 _
  have hsz : (DataW.weightsEach Try.prog (Try.f3.params.toList ++ Rows.consoleBarsSpec.plain.varTypes Try.prog) (ds ++ gs)).all (· ≤ reachBytes) = true := hsz0
  have hval : ∀ (j : Nat) t v, Try.f3.params[j]? = some t → args[j]? = some v → Value.okWide Try.prog W .any base t v := hval0
  have hW' := hW
  obtain ⟨p, q, hA0, hV, rfl, hfz, hnd⟩ := hW
  have hA : DataW.TrodAll enc Try.prog W 0 (fun _ => true) true Try.f3.params.toList args.toList ds p := hA0
  rw [Try.params3] at hA hval hsz
  obtain ⟨v0, vs0, d0, ds0, p0, q0, hargs, rfl, rfl, h0, r0⟩ := trodAll_cons hA
  obtain ⟨v1, vs1, d1, ds1, p1, q1, rfl, rfl, rfl, h1, r1⟩ := trodAll_cons r0
  obtain ⟨v2, vs2, d2, ds2, p2, q2, rfl, rfl, rfl, h2, r2⟩ := trodAll_cons r1
  obtain ⟨rfl, rfl, rfl⟩ := trodAll_nil r2
  obtain rfl : args = #[v0, v1, v2] := by cases args; simp_all
  obtain ⟨rfl, rfl⟩ := trodVars_none hV
  have k0 := h0
  have lt0 : ∀ x ∈ p0, x.block < W.heap.size := by obtain ⟨m, hm⟩ := k0; exact DataW.trod_lt m _ _ _ hm
  have hv0 := hval 0 22 v0 rfl rfl
  have hl0 : Light Try.prog 22 d0 := light_arg hsz (j := 0) rfl rfl
  have k1 := h1
  have lt1 : ∀ x ∈ p1, x.block < W.heap.size := by obtain ⟨m, hm⟩ := k1; exact DataW.trod_lt m _ _ _ hm
  have hv1 := hval 1 3 v1 rfl rfl
  have hl1 : Light Try.prog 3 d1 := light_arg hsz (j := 1) rfl rfl
  have k2 := h2
  have lt2 : ∀ x ∈ p2, x.block < W.heap.size := by obtain ⟨m, hm⟩ := k2; exact DataW.trod_lt m _ _ _ hm
  have hv2 := hval 2 3 v2 rfl rfl
  have hl2 : Light Try.prog 3 d2 := light_arg hsz (j := 2) rfl rfl
  obtain ⟨es, hr, hg, hln⟩ := open_events h0 hl0 (by obtain ⟨A, n, c, rfl⟩ := okWide_slice Go.Proofs.Try.underlying22 hv0; exact ⟨A, n, c, rfl⟩)
  obtain ⟨each, rfl, rfl, rfl, w1⟩ := open_int Go.Proofs.Try.underlying3 hv1 h1
  obtain ⟨cut, rfl, rfl, rfl, w2⟩ := open_int Go.Proofs.Try.underlying3 hv2 h2
  clear hA0 hval0 hsz0 hsz
  refine (lawBars hr hln hg).2.mono ?_
  rintro e W' ⟨_, H', rfl, hu, rfl⟩
  have bel := hu.below'
  exact ⟨_, rfl, _, _, _, [], _, [], hW', trodAll_mk1 (shut_bool Go.Proofs.Try.underlying4 _), (trodAll_cons_mk (Below.trod Try.laidOut (by kernel_rfl) (of_decide_eq_true (by kernel_rfl)) k0 bel lt0) (trodAll_cons_mk (Below.trod Try.laidOut (by kernel_rfl) (of_decide_eq_true (by kernel_rfl)) k1 bel lt1) (trodAll_cons_mk (Below.trod Try.laidOut (by kernel_rfl) (of_decide_eq_true (by kernel_rfl)) k2 bel lt2) trodAll_mk0))), rfl, bel.frame _, fun h => by cases h⟩
theorem consoleBars_holds : Rows.ConsoleBarsSaid :=
  OpenClaim.holds_of_wide 3 Try.f3 rfl rfl rfl rfl rfl rfl rfl ⟨rfl, rfl, rfl, rfl, rfl⟩ rfl rfl rfl rfl rfl (by kernel_rfl) Try.func3 (by kernel_rfl)
    (of_decide_eq_true (by kernel_rfl)) (by unfold Func.isWrapper; first | (rw [if_pos (by decide +kernel)]; kernel_rfl) | (rw [if_neg (by decide +kernel)]; exact ⟨rfl, rfl⟩))
    (fun os started H enc _ => consoleBars_lifted os started H enc)
#print axioms consoleBars_holds
end Go.Proofs.Ytonoamdonmbkpaa
