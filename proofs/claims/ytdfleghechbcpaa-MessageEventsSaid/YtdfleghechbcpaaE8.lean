/- The law bourselaw04.MessageEvents gives true, whatever the event and the frame; the input reads as it did. No condition beyond the row's own. -/
import Derived.Test.YtdfleghechbcpaaE7
namespace Go.Rx
open Go Go.RowKit Go.WideShapes
set_option linter.unusedVariables false
set_option linter.unusedSimpArgs false
theorem andU_m32 {g : Int} (h : 0 ≤ g ∧ g ≤ 4294967295) : andU g 4294967295 = g := by
  have h64 : (2 ^ IntKind.u64.bits : Int) = 18446744073709551616 := rfl
  have hs : IntKind.u64.signed = false := rfl
  have h1 : (BitVec.ofInt IntKind.u64.bits g).toNat = g.toNat := by
    rw [BitVec.toNat_ofInt]
    have : ((2 ^ IntKind.u64.bits : Nat) : Int) = 18446744073709551616 := rfl
    rw [this, Int.emod_eq_of_lt h.1 (by omega)]
  have h2 : (BitVec.ofInt IntKind.u64.bits 4294967295).toNat = 2 ^ 32 - 1 := rfl
  have e : (BitVec.ofInt IntKind.u64.bits g &&& BitVec.ofInt IntKind.u64.bits 4294967295).toNat = g.toNat := by
    rw [BitVec.toNat_and, h1, h2, Nat.and_two_pow_sub_one_eq_mod]
    exact Nat.mod_eq_of_lt (by omega)
  simp only [andU, IntKind.wrap, h64, hs, Bool.false_and, e]
  rw [Int.emod_eq_of_lt (by omega) (by omega)]
  simp
  omega
theorem down32 {g : Int} (h : 0 ≤ g ∧ g ≤ 18446744073709551615) : 0 ≤ down g 32 ∧ down g 32 ≤ 4294967295 := by
  have e : (2 : Int) ^ (min (Int.toNat 32) IntKind.u64.bits) = 4294967296 := rfl
  rw [down, e]
  omega
theorem unpackEv_of {k : Int} {ws : List Int} {fs : List Fld} (hF : evFieldsF (ev0 (k - 64)) = some fs) (hk : 1 ≤ k - 64 ∧ k - 64 ≤ 5) {x : Event} (h1 : unpackEvX k fs ws = x) (h2 : refUnpackEvI ⟨k, ws⟩ = x) (hw : x.Wf) : unpackEvF ⟨k, ws⟩ = refUnpackEvF ⟨k, ws⟩ := by
  rw [refUnpackEvF, if_neg (fun h => h hk), h2, ← packEv_eq hw]
  unfold unpackEvF
  rw [hF]
  dsimp only
  rw [h1]
theorem unpackEv_eq {k g0 g1 g2 g3 g4 g5 g6 : Int} (b0 : 0 ≤ g0 ∧ g0 ≤ 18446744073709551615) (b1 : 0 ≤ g1 ∧ g1 ≤ 18446744073709551615) (b2 : 0 ≤ g2 ∧ g2 ≤ 18446744073709551615) (b4 : 0 ≤ g4 ∧ g4 ≤ 18446744073709551615) (b5 : 0 ≤ g5 ∧ g5 ≤ 18446744073709551615) (b6 : 0 ≤ g6 ∧ g6 ≤ 18446744073709551615) :
    unpackEvF ⟨k, [g0, g1, g2, g3, g4, g5, g6]⟩ = refUnpackEvF ⟨k, [g0, g1, g2, g3, g4, g5, g6]⟩ := by
  by_cases hk : 1 ≤ k - 64 ∧ k - 64 ≤ 5
  · have : k = 65 ∨ k = 66 ∨ k = 67 ∨ k = 68 ∨ k = 69 := by omega
    have z : ∀ n : Int, 0 ≤ n % 4294967296 ∧ n % 4294967296 ≤ 4294967295 := fun n => by omega
    have zi : -9223372036854775808 ≤ (0 : Int) ∧ (0 : Int) ≤ 9223372036854775807 := by decide
    have zu : (0 : Int) ≤ 0 ∧ (0 : Int) ≤ 18446744073709551615 := by decide
    have zm : (0 : Int) ≤ 0 ∧ (0 : Int) ≤ 4294967295 := by decide
    have hd := andU_m32 (down32 b4)
    rcases this with rfl | rfl | rfl | rfl | rfl
    · refine unpackEv_of (fs := evFields1 (ev0 1)) rfl hk (x := ⟨g0, 1, g1, 0, 0, andU g3 4294967295 % 4294967296, s64 (andU (down g3 32) 255), s64 (andU (down g3 40) 255), s64 (andU g4 4294967295), g5, g6, 0, 0⟩) rfl ?_ ⟨b0, b1, zu, zu, z _, s64_range _, s64_range _, s64_range _, b5, b6, zi, zi⟩
      show (⟨down g0 0, 1, down g1 0, 0, 0, andU (down g3 0) 4294967295 % 4294967296, s64 (andU (down g3 32) 255), s64 (andU (down g3 40) 255), s64 (andU (down g4 0) 4294967295), down g5 0, down g6 0, 0, 0⟩ : Event) = _
      simp only [down_zero]
    · refine unpackEv_of (fs := evFields2 (ev0 2)) rfl hk (x := ⟨g0, 2, g1, 0, g2, 0, 0, 0, 0, 0, 0, 0, s64 (down g4 32)⟩) rfl ?_ ⟨b0, b1, zu, b2, zm, zi, zi, zi, zu, zu, zi, s64_range _⟩
      show (⟨down g0 0, 2, down g1 0, 0, down g2 0, 0, 0, 0, 0, 0, 0, 0, s64 (andU (down g4 32) 4294967295)⟩ : Event) = _
      simp only [down_zero, hd]
    · refine unpackEv_of (fs := evFields3 (ev0 3)) rfl hk (x := ⟨g0, 3, g1, g2, 0, 0, s64 (andU (down g3 32) 255), 0, s64 (andU g4 4294967295), g5, 0, 0, 0⟩) rfl ?_ ⟨b0, b1, b2, zu, zm, s64_range _, zi, s64_range _, b5, zu, zi, zi⟩
      show (⟨down g0 0, 3, down g1 0, down g2 0, 0, 0, s64 (andU (down g3 32) 255), 0, s64 (andU (down g4 0) 4294967295), down g5 0, 0, 0, 0⟩ : Event) = _
      simp only [down_zero]
    · refine unpackEv_of (fs := evFields4 (ev0 4)) rfl hk (x := ⟨g0, 4, g1, 0, 0, 0, 0, 0, 0, g5, 0, s64 (andU (down g3 48) 255), 0⟩) rfl ?_ ⟨b0, b1, zu, zu, zm, zi, zi, zi, b5, zu, s64_range _, zi⟩
      show (⟨down g0 0, 4, down g1 0, 0, 0, 0, 0, 0, 0, down g5 0, 0, s64 (andU (down g3 48) 255), 0⟩ : Event) = _
      simp only [down_zero]
    · refine unpackEv_of (fs := evFields5 (ev0 5)) rfl hk (x := ⟨g0, 5, g1, 0, 0, 0, 0, 0, s64 (andU g4 4294967295), g5, 0, 0, 0⟩) rfl ?_ ⟨b0, b1, zu, zu, zm, zi, zi, s64_range _, b5, zu, zi, zi⟩
      show (⟨down g0 0, 5, down g1 0, 0, 0, 0, 0, 0, s64 (andU (down g4 0) 4294967295), down g5 0, 0, 0, 0⟩ : Event) = _
      simp only [down_zero]
  · rw [refUnpackEvF, if_pos hk]
    have hF : evFieldsF (ev0 (k - 64)) = none := by
      have e : (ev0 (k - 64)).kind = k - 64 := rfl
      rw [evFieldsF, e, if_neg (by omega), if_neg (by omega), if_neg (by omega), if_neg (by omega), if_neg (by omega)]
    unfold unpackEvF
    rw [hF]
theorem open_event {H : Type} {enc : TypeId × Value → H} {W : World} {base : Nat} {v : Value} {d : DataW H} {p : List MemPlace} (hv : Value.okWide Go.Proofs.Try.prog W .any base 36 v) (h : DataW.Trod enc Go.Proofs.Try.prog W 0 (fun _ => true) true 36 v d p) :
    ∃ i : Event, v = .agg i.enc.toArray ∧ i.Wf := by
  obtain ⟨cs, rfl, hcs⟩ := okWide_struct Go.Proofs.Try.underlying36 hv
  obtain ⟨fuel, hf⟩ := h
  have hp := trod_plain 20 _ _ so.api_Event fuel _ _ hf
  have e : (Value.agg cs).cells.toList = cs.toList := rfl
  rw [e] at hp
  obtain ⟨ha, hb⟩ := hp
  obtain ⟨c0, r0, q0, i0, ha⟩ := areSorts_cons ha
  obtain ⟨c1, r1, rfl, i1, ha⟩ := areSorts_cons ha
  obtain ⟨c2, r2, rfl, i2, ha⟩ := areSorts_cons ha
  obtain ⟨c3, r3, rfl, i3, ha⟩ := areSorts_cons ha
  obtain ⟨c4, r4, rfl, i4, ha⟩ := areSorts_cons ha
  obtain ⟨c5, r5, rfl, i5, ha⟩ := areSorts_cons ha
  obtain ⟨c6, r6, rfl, i6, ha⟩ := areSorts_cons ha
  obtain ⟨c7, r7, rfl, i7, ha⟩ := areSorts_cons ha
  obtain ⟨c8, r8, rfl, i8, ha⟩ := areSorts_cons ha
  obtain ⟨c9, r9, rfl, i9, ha⟩ := areSorts_cons ha
  obtain ⟨c10, r10, rfl, i10, ha⟩ := areSorts_cons ha
  obtain ⟨c11, r11, rfl, i11, ha⟩ := areSorts_cons ha
  obtain ⟨c12, r12, rfl, i12, ha⟩ := areSorts_cons ha
  obtain rfl := areSorts_nil ha
  rw [q0] at hb
  simp only [List.all_cons, List.all_nil, Bool.and_eq_true] at hb
  obtain ⟨n0, rfl, w0⟩ := isSort_int' i0 hb.1
  obtain ⟨n1, rfl, w1⟩ := isSort_int' i1 hb.2.1
  obtain ⟨n2, rfl, w2⟩ := isSort_int' i2 hb.2.2.1
  obtain ⟨n3, rfl, w3⟩ := isSort_int' i3 hb.2.2.2.1
  obtain ⟨n4, rfl, w4⟩ := isSort_int' i4 hb.2.2.2.2.1
  obtain ⟨n5, rfl, w5⟩ := isSort_int' i5 hb.2.2.2.2.2.1
  obtain ⟨n6, rfl, w6⟩ := isSort_int' i6 hb.2.2.2.2.2.2.1
  obtain ⟨n7, rfl, w7⟩ := isSort_int' i7 hb.2.2.2.2.2.2.2.1
  obtain ⟨n8, rfl, w8⟩ := isSort_int' i8 hb.2.2.2.2.2.2.2.2.1
  obtain ⟨n9, rfl, w9⟩ := isSort_int' i9 hb.2.2.2.2.2.2.2.2.2.1
  obtain ⟨n10, rfl, w10⟩ := isSort_int' i10 hb.2.2.2.2.2.2.2.2.2.2.1
  obtain ⟨n11, rfl, w11⟩ := isSort_int' i11 hb.2.2.2.2.2.2.2.2.2.2.2.1
  obtain ⟨n12, rfl, w12⟩ := isSort_int' i12 hb.2.2.2.2.2.2.2.2.2.2.2.2.1
  refine ⟨⟨n0, n1, n2, n3, n4, n5, n6, n7, n8, n9, n10, n11, n12⟩, ?_, ⟨wf_bounds w0, wf_bounds w2, wf_bounds w3, wf_bounds w4, wf_bounds w5, wf_bounds w6, wf_bounds w7, wf_bounds w8, wf_bounds w9, wf_bounds w10, wf_bounds w11, wf_bounds w12⟩⟩
  congr 1
  apply Array.ext'
  rw [q0]
  rfl
set_option maxHeartbeats 2000000 in
theorem lawEvents {w : World} {i : Event} {k g0 g1 g2 g3 g4 g5 g6 : Int} (hi : i.Wf) (hk : 0 ≤ k ∧ k ≤ 255) (b0 : 0 ≤ g0 ∧ g0 ≤ 18446744073709551615) (b1 : 0 ≤ g1 ∧ g1 ≤ 18446744073709551615) (b2 : 0 ≤ g2 ∧ g2 ≤ 18446744073709551615) (b4 : 0 ≤ g4 ∧ g4 ≤ 18446744073709551615) (b5 : 0 ≤ g5 ∧ g5 ≤ 18446744073709551615) (b6 : 0 ≤ g6 ∧ g6 ≤ 18446744073709551615) :
    Spec Go.Proofs.Try.prog 4 #[.agg i.enc.toArray, .agg (frV k g0 g1 g2 g3 g4 g5 g6).toArray] w [] (fun u _ => u = .bool true) := by
  obtain ⟨a0, a1, a2, a3, a4, a5, a6, h7⟩ := list7 (packEvF_len i)
  have hP : packEvF i = (⟨(packEvF i).1.kind, [a0, a1, a2, a3, a4, a5, a6]⟩, (packEvF i).2) := by rw [← h7]
  generalize (packEvF i).1.kind = kk at hP
  generalize (packEvF i).2 = ee at hP
  have hQ : refPackEvF i = (⟨kk, [a0, a1, a2, a3, a4, a5, a6]⟩, ee) := by rw [← packEv_eq hi]; exact hP
  have hR := unpackEv_eq (k := k) (g3 := g3) b0 b1 b2 b4 b5 b6
  generalize hU : unpackEvF ⟨k, [g0, g1, g2, g3, g4, g5, g6]⟩ = pr at hR
  obtain ⟨x, ef⟩ := pr
  refine Spec.enter (fn := Go.Proofs.Try.f4) (n := 51) [.agg i.enc.toArray, .agg (frV k g0 g1 g2 g3 g4 g5 g6).toArray] Go.Proofs.Try.func4 (by kernel_rfl) rfl Go.Proofs.Try.ntmps4 Go.Proofs.Try.results4 rfl (Own.nil _) ?_
  refine JC.rs ?_
  refine Seq.box (cs := [_, _, _, _, _, _, _, _, _, _, _, _, _]) (k := ?_); intro b2
  refine Seq.box (cs := [_, _, _, _, _, _, _, _]) (k := ?_); intro b3
  refine Seq.p rfl Ev.assign ?_
  refine Seq.nil ?_
  refine JC.rs ?_
  refine Seq.p rfl (Ev.ldBA ag.api_Event) ?_
  refine Seq.callP rfl (fun w hw => hP ▸ msgPackEv) ?_
  refine Seq.p rfl Ev.move ?_
  refine Seq.p rfl Ev.extract ?_
  refine Seq.p rfl Ev.extract ?_
  refine Seq.alloc (cs := [_, _, _, _, _, _, _, _]) (hz := z.api_Frame) (k := ?_); intro b5
  refine Seq.storeN [_, _, _, _, _, _, _, _] sz.api_Frame (k := ?_)
  refine Seq.p rfl Ev.assign ?_
  refine Seq.nil ?_
  refine JC.rs ?_
  refine Seq.p rfl (Ev.ldBA ag.api_Event) ?_
  refine Seq.callP rfl (fun w hw => hQ ▸ refPackEv) ?_
  refine Seq.p rfl Ev.move ?_
  refine Seq.p rfl Ev.extract ?_
  refine Seq.p rfl Ev.extract ?_
  refine Seq.alloc (cs := [_, _, _, _, _, _, _, _]) (hz := z.api_Frame) (k := ?_); intro b7
  refine Seq.storeN [_, _, _, _, _, _, _, _] sz.api_Frame (k := ?_)
  refine Seq.p rfl Ev.assign ?_
  refine Seq.nil ?_
  refine JC.rs ?_
  refine Seq.p rfl (Ev.ldBA ag.api_Frame) ?_
  refine Seq.callP rfl (fun w hw => hU ▸ msgUnpackEv hk) ?_
  refine Seq.p rfl Ev.move ?_
  refine Seq.p rfl Ev.extract ?_
  refine Seq.p rfl Ev.extract ?_
  refine Seq.alloc (cs := [_, _, _, _, _, _, _, _, _, _, _, _, _]) (hz := z.api_Event) (k := ?_); intro b9
  refine Seq.storeN [_, _, _, _, _, _, _, _, _, _, _, _, _] sz.api_Event (k := ?_)
  refine Seq.p rfl Ev.assign ?_
  refine Seq.nil ?_
  refine JC.rs ?_
  refine Seq.p rfl (Ev.ldBA ag.api_Frame) ?_
  refine Seq.callP rfl (fun w hw => hR.symm ▸ refUnpackEv hk) ?_
  refine Seq.p rfl Ev.move ?_
  refine Seq.p rfl Ev.extract ?_
  refine Seq.p rfl Ev.extract ?_
  refine Seq.alloc (cs := [_, _, _, _, _, _, _, _, _, _, _, _, _]) (hz := z.api_Event) (k := ?_); intro b11
  refine Seq.storeN [_, _, _, _, _, _, _, _, _, _, _, _, _] sz.api_Event (k := ?_)
  refine Seq.p rfl Ev.assign ?_
  refine Seq.nil ?_
  refine JC.rs ?_
  refine Seq.p rfl (Ev.ldBA ag.api_Frame) ?_
  refine Seq.p rfl (Ev.ldBA ag.api_Frame) ?_
  refine Seq.p rfl (Ev.eqAg so.api_Frame ag.api_Frame gd.api_Frame) ?_
  refine Seq.p rfl Ev.move ?_
  refine Seq.split (d := 36) (k := ?_)
  rintro (_|_) h36
  · try simp only [decide_eq_true_eq, decide_eq_false_iff_not] at h36
    exact absurd h36 (by rw [eqL_refl _ rfl]; decide)
  · try simp only [decide_eq_true_eq, decide_eq_false_iff_not] at h36
    refine Seq.gy rfl rfl rfl ?_
    refine Seq.p rfl Ev.move ?_
    refine Seq.gy rfl rfl rfl ?_
    refine Seq.p rfl Ev.move ?_
    refine Seq.gy rfl rfl rfl ?_
    refine Seq.p rfl Ev.eq ?_
    refine Seq.p rfl Ev.pickT ?_
    refine Seq.p rfl Ev.move ?_
    refine Seq.split (d := 41) (k := ?_)
    rintro (_|_) h41
    · try simp only [decide_eq_true_eq, decide_eq_false_iff_not] at h41
      exact absurd trivial h41
    · try simp only [decide_eq_true_eq, decide_eq_false_iff_not] at h41
      refine Seq.gy rfl rfl rfl ?_
      refine Seq.p rfl (Ev.ldBA ag.api_Event) ?_
      refine Seq.gy rfl rfl rfl ?_
      refine Seq.p rfl (Ev.ldBA ag.api_Event) ?_
      refine Seq.gy rfl rfl rfl ?_
      refine Seq.p rfl (Ev.eqAg so.api_Event ag.api_Event gd.api_Event) ?_
      refine Seq.p rfl Ev.pickT ?_
      refine Seq.p rfl Ev.move ?_
      refine Seq.split (d := 46) (k := ?_)
      rintro (_|_) h46
      · try simp only [decide_eq_true_eq, decide_eq_false_iff_not] at h46
        exact absurd h46 (by rw [eqL_refl _ rfl]; decide)
      · try simp only [decide_eq_true_eq, decide_eq_false_iff_not] at h46
        refine Seq.gy rfl rfl rfl ?_
        refine Seq.p rfl Ev.move ?_
        refine Seq.gy rfl rfl rfl ?_
        refine Seq.p rfl Ev.move ?_
        refine Seq.gy rfl rfl rfl ?_
        refine Seq.p rfl Ev.eq ?_
        refine Seq.p rfl Ev.pickT ?_
        refine Seq.p rfl Ev.assign ?_
        refine Seq.nil ?_
        refine JC.ret ?_
        -- return 0
        show retQ _ _ _ _ _ _ _ _
        refine ret1 (hp := Part.nil _) (hpost := ?_)
        simp
end Go.Rx
namespace Go.Proofs.Ytdfleghechbcpaa
open Go Go.RowKit Go.WideShapes Go.ChangeShapes Go.ChangeAt Go.Rx
set_option linter.unusedVariables false
set_option maxRecDepth 100000 in
theorem messageEvents_lifted (os : Os) (started : os.Started) (H : Type) (enc : TypeId × Value → H) :
    ReturnsInHanded {} Try.checked os 4 .any (Rows.messageEventsSpec.pre6 enc Try.prog Try.f4 Rows.messageEventsRow.domain false) (Rows.messageEventsSpec.post enc Try.prog Try.f4 false true false false) := by
  refine returnsInHanded_of_change_sized (C := Try.checked) Try.own started (by kernel_rfl) Try.func4
    (ChangeSpec.witness6 (enc := enc) (C := Try.checked) false ⟨#[], #[.agg #[.int .u64 0, .int .i64 0, .int .u64 0, .int .u64 0, .int .u64 0, .int .u32 0, .int .i64 0, .int .i64 0, .int .i64 0, .int .u64 0, .int .u64 0, .int .i64 0, .int .i64 0], .agg #[.int .u8 0, .int .u64 0, .int .u64 0, .int .u64 0, .int .u64 0, .int .u64 0, .int .u64 0, .int .u64 0]], []⟩ 8 (by kernel_rfl) (by kernel_rfl) (by kernel_rfl) (by kernel_rfl)) ?_
  intro W base args ds gs before hval0 hW hcnd hsz0 _
  have hsz : (DataW.weightsEach Try.prog (Try.f4.params.toList ++ Rows.messageEventsSpec.plain.varTypes Try.prog) (ds ++ gs)).all (· ≤ reachBytes) = true := hsz0
  have hval : ∀ (j : Nat) t v, Try.f4.params[j]? = some t → args[j]? = some v → Value.okWide Try.prog W .any base t v := hval0
  have hW' := hW
  obtain ⟨p, q, hA0, hV, rfl, hfz, hnd⟩ := hW
  have hA : DataW.TrodAll enc Try.prog W 0 (fun _ => true) true Try.f4.params.toList args.toList ds p := hA0
  rw [Try.params4] at hA hval hsz
  obtain ⟨v0, vs0, d0, ds0, p0, q0, hargs, rfl, rfl, h0, r0⟩ := trodAll_cons hA
  obtain ⟨v1, vs1, d1, ds1, p1, q1, rfl, rfl, rfl, h1, r1⟩ := trodAll_cons r0
  obtain ⟨rfl, rfl, rfl⟩ := trodAll_nil r1
  obtain rfl : args = #[v0, v1] := by cases args; simp_all
  obtain ⟨rfl, rfl⟩ := trodVars_none hV
  have k0 := h0
  have lt0 : ∀ x ∈ p0, x.block < W.heap.size := by obtain ⟨m, hm⟩ := k0; exact DataW.trod_lt m _ _ _ hm
  have hv0 := hval 0 36 v0 rfl rfl
  have hl0 : Light Try.prog 36 d0 := light_arg hsz (j := 0) rfl rfl
  have k1 := h1
  have lt1 : ∀ x ∈ p1, x.block < W.heap.size := by obtain ⟨m, hm⟩ := k1; exact DataW.trod_lt m _ _ _ hm
  have hv1 := hval 1 30 v1 rfl rfl
  have hl1 : Light Try.prog 30 d1 := light_arg hsz (j := 1) rfl rfl
  obtain ⟨i, rfl, hi⟩ := open_event hv0 h0
  obtain ⟨k, g0, g1, g2, g3, g4, g5, g6, rfl, bk, b0, b1, b2, b3, b4, b5, b6⟩ := open_frame hv1 h1
  clear hA0 hval0 hsz0 hsz
  refine (lawEvents (g3 := g3) hi bk b0 b1 b2 b4 b5 b6).2.mono ?_
  rintro e W' ⟨_, H', rfl, hu, rfl⟩
  have bel := hu.below'
  exact ⟨_, rfl, _, _, _, [], _, [], hW', trodAll_mk1 (shut_bool Go.Proofs.Try.underlying4 _), (trodAll_cons_mk (Below.trod Try.laidOut (by kernel_rfl) (of_decide_eq_true (by kernel_rfl)) k0 bel lt0) (trodAll_cons_mk (Below.trod Try.laidOut (by kernel_rfl) (of_decide_eq_true (by kernel_rfl)) k1 bel lt1) trodAll_mk0)), rfl, bel.frame _, fun h => by cases h⟩
theorem messageEvents_holds : Rows.MessageEventsSaid :=
  OpenClaim.holds_of_wide 4 Try.f4 rfl rfl rfl rfl rfl rfl rfl ⟨rfl, rfl, rfl, rfl, rfl⟩ rfl rfl rfl rfl rfl (by kernel_rfl) Try.func4 (by kernel_rfl)
    (of_decide_eq_true (by kernel_rfl)) (by unfold Func.isWrapper; first | (rw [if_pos (by decide +kernel)]; kernel_rfl) | (rw [if_neg (by decide +kernel)]; exact ⟨rfl, rfl⟩))
    (fun os started H enc _ => messageEvents_lifted os started H enc)
#print axioms messageEvents_holds
end Go.Proofs.Ytdfleghechbcpaa
