/- The law bourselaw04.MessageUnpacks gives true, whatever the frame; the input reads as it did. No condition beyond the row's own. -/
import Derived.Test.YtdfleghechbcpaaN2
import Derived.Test.YtdfleghechbcpaaRows
import Derived.Below
import Derived.ChangeOld
import Derived.ShutString
namespace Go.Rx
open Go Go.RowKit Go.WideShapes
set_option linter.unusedVariables false
set_option linter.unusedSimpArgs false
theorem down_zero (n : Int) : down n 0 = n := by
  have e : (2 : Int) ^ (min (Int.toNat 0) IntKind.u64.bits) = 1 := rfl
  rw [down, e, Int.ediv_one]
theorem s64_range (n : Int) : -9223372036854775808 ≤ s64 n ∧ s64 n ≤ 9223372036854775807 := by
  have h64 : (2 ^ IntKind.i64.bits : Int) = 18446744073709551616 := rfl
  have h63 : (2 ^ (IntKind.i64.bits - 1) : Int) = 9223372036854775808 := rfl
  have hs : IntKind.i64.signed = true := rfl
  simp only [s64, IntKind.wrap, h64, h63, hs, Bool.true_and, ge_iff_le, decide_eq_true_eq]
  split <;> omega
section
variable (g0 g1 g2 g3 g4 g5 g6 : Int)
def inp1 : Input := ⟨1, 1, g0, 0, andU g2 4294967295 % 4294967296, s64 (andU (down g2 32) 255), s64 (andU (down g2 40) 255), s64 (andU g3 4294967295), g4, g5, 0⟩
def inp2 : Input := ⟨1, 2, 0, g1, 0, 0, 0, 0, 0, 0, 0⟩
def inp3 : Input := ⟨1, 3, g0, g1, 0, 0, 0, s64 (andU g3 4294967295), g4, g5, 0⟩
def inp4 : Input := ⟨2, 0, 0, 0, 0, 0, 0, 0, 0, 0, s64 (andU g0 255)⟩
theorem unp1 : unpackI ⟨1, [g0, g1, g2, g3, g4, g5, g6]⟩ = inp1 g0 g2 g3 g4 g5 := rfl
theorem unp2 : unpackI ⟨2, [g0, g1, g2, g3, g4, g5, g6]⟩ = inp2 g1 := rfl
theorem unp3 : unpackI ⟨3, [g0, g1, g2, g3, g4, g5, g6]⟩ = inp3 g0 g1 g3 g4 g5 := rfl
theorem ref1 : refUnpackI ⟨1, [g0, g1, g2, g3, g4, g5, g6]⟩ = inp1 g0 g2 g3 g4 g5 := by
  show (⟨1, 1, down g0 0, 0, andU (down g2 0) 4294967295 % 4294967296, s64 (andU (down g2 32) 255), s64 (andU (down g2 40) 255), s64 (andU (down g3 0) 4294967295), down g4 0, down g5 0, 0⟩ : Input) = _
  simp only [down_zero]
  rfl
theorem ref2 : refUnpackI ⟨2, [g0, g1, g2, g3, g4, g5, g6]⟩ = inp2 g1 := by
  show (⟨1, 2, 0, down g1 0, 0, 0, 0, 0, 0, 0, 0⟩ : Input) = _
  simp only [down_zero]
  rfl
theorem ref3 : refUnpackI ⟨3, [g0, g1, g2, g3, g4, g5, g6]⟩ = inp3 g0 g1 g3 g4 g5 := by
  show (⟨1, 3, down g0 0, down g1 0, 0, 0, 0, s64 (andU (down g3 0) 4294967295), down g4 0, down g5 0, 0⟩ : Input) = _
  simp only [down_zero]
  rfl
theorem ref4 : refUnpackI ⟨4, [g0, g1, g2, g3, g4, g5, g6]⟩ = inp4 g0 := by
  show (⟨2, 0, 0, 0, 0, 0, 0, 0, 0, 0, s64 (andU (down g0 0) 255)⟩ : Input) = _
  simp only [down_zero]
  rfl
end
theorem andU_255 (g : Int) : 0 ≤ andU g 255 ∧ andU g 255 ≤ 255 := by
  have h : (BitVec.ofInt IntKind.u64.bits g &&& BitVec.ofInt IntKind.u64.bits 255).toNat ≤ 255 := by
    rw [BitVec.toNat_and]
    exact Nat.and_le_right
  have h64 : (2 ^ IntKind.u64.bits : Int) = 18446744073709551616 := rfl
  have hs : IntKind.u64.signed = false := rfl
  have e : andU g 255 = ((BitVec.ofInt IntKind.u64.bits g &&& BitVec.ofInt IntKind.u64.bits 255).toNat : Int) := by
    simp only [andU, IntKind.wrap, h64, hs, Bool.false_and]
    exact Int.emod_eq_of_lt (by omega) (by omega)
  rw [e]
  omega
theorem andU_small {g : Int} (h : 0 ≤ g ∧ g ≤ 255) : andU g 255 = g := by
  have h64 : (2 ^ IntKind.u64.bits : Int) = 18446744073709551616 := rfl
  have hs : IntKind.u64.signed = false := rfl
  have h1 : (BitVec.ofInt IntKind.u64.bits g).toNat = g.toNat := by
    rw [BitVec.toNat_ofInt]
    have : ((2 ^ IntKind.u64.bits : Nat) : Int) = 18446744073709551616 := rfl
    rw [this, Int.emod_eq_of_lt h.1 (by omega)]
  have h2 : (BitVec.ofInt IntKind.u64.bits 255).toNat = 2 ^ 8 - 1 := rfl
  have e : (BitVec.ofInt IntKind.u64.bits g &&& BitVec.ofInt IntKind.u64.bits 255).toNat = g.toNat := by
    rw [BitVec.toNat_and, h1, h2, Nat.and_two_pow_sub_one_eq_mod]
    exact Nat.mod_eq_of_lt (by omega)
  simp only [andU, IntKind.wrap, h64, hs, Bool.false_and, e]
  rw [Int.emod_eq_of_lt (by omega) (by omega)]
  simp
  omega
theorem unp4 (g0 g1 g2 g3 g4 g5 g6 : Int) : unpackI ⟨4, [g0, g1, g2, g3, g4, g5, g6]⟩ = ⟨2, 0, 0, 0, 0, 0, 0, 0, 0, 0, s64 g0⟩ := rfl
theorem unpack_of {f : Frame} (hw : (unpackI f).Wf) (h : unpackI f = refUnpackI f) : unpackF f = refUnpackF f := by
  rw [unpackF, refUnpackF, ← h, ← pack_eq hw]
theorem s64_big {g : Int} (h : 255 < g ∧ g ≤ 18446744073709551615) : ¬ (0 ≤ s64 g ∧ s64 g ≤ 255) := by
  have h64 : (2 ^ IntKind.i64.bits : Int) = 18446744073709551616 := rfl
  have h63 : (2 ^ (IntKind.i64.bits - 1) : Int) = 9223372036854775808 := rfl
  have hs : IntKind.i64.signed = true := rfl
  simp only [s64, IntKind.wrap, h64, h63, hs, Bool.true_and, ge_iff_le, decide_eq_true_eq]
  split <;> omega
theorem unpack_eq {k g0 g1 g2 g3 g4 g5 g6 : Int} (b0 : 0 ≤ g0 ∧ g0 ≤ 18446744073709551615) (b1 : 0 ≤ g1 ∧ g1 ≤ 18446744073709551615) (b4 : 0 ≤ g4 ∧ g4 ≤ 18446744073709551615) (b5 : 0 ≤ g5 ∧ g5 ≤ 18446744073709551615) :
    unpackF ⟨k, [g0, g1, g2, g3, g4, g5, g6]⟩ = refUnpackF ⟨k, [g0, g1, g2, g3, g4, g5, g6]⟩ := by
  by_cases hk : k < 1 ∨ 4 < k
  · rw [unpackF, refUnpackF, if_pos hk, if_pos hk]
  · have : k = 1 ∨ k = 2 ∨ k = 3 ∨ k = 4 := by omega
    have zi : -9223372036854775808 ≤ (0 : Int) ∧ (0 : Int) ≤ 9223372036854775807 := by decide
    have zu : (0 : Int) ≤ 0 ∧ (0 : Int) ≤ 18446744073709551615 := by decide
    have zm : (0 : Int) ≤ 0 ∧ (0 : Int) ≤ 4294967295 := by decide
    have c1 : -9223372036854775808 ≤ (1 : Int) ∧ (1 : Int) ≤ 9223372036854775807 := by decide
    have c2 : -9223372036854775808 ≤ (2 : Int) ∧ (2 : Int) ≤ 9223372036854775807 := by decide
    have c3 : -9223372036854775808 ≤ (3 : Int) ∧ (3 : Int) ≤ 9223372036854775807 := by decide
    have z : ∀ n : Int, 0 ≤ n % 4294967296 ∧ n % 4294967296 ≤ 4294967295 := fun n => by omega
    rcases this with rfl | rfl | rfl | rfl
    · refine unpack_of ?_ ((unp1 ..).trans (ref1 ..).symm)
      rw [unp1]
      exact ⟨c1, b0, zu, z _, s64_range _, s64_range _, s64_range _, b4, b5, zi⟩
    · refine unpack_of ?_ ((unp2 ..).trans (ref2 ..).symm)
      rw [unp2]
      exact ⟨c2, zu, b1, zm, zi, zi, zi, zu, zu, zi⟩
    · refine unpack_of ?_ ((unp3 ..).trans (ref3 ..).symm)
      rw [unp3]
      exact ⟨c3, b0, b1, zm, zi, zi, s64_range _, b4, b5, zi⟩
    · by_cases h : g0 ≤ 255
      · refine unpack_of ?_ ((unp4 ..).trans ?_)
        · rw [unp4]
          exact ⟨zi, zu, zu, zm, zi, zi, zi, zu, zu, s64_range _⟩
        · rw [ref4, inp4, andU_small ⟨b0.1, h⟩]
      · have hb := s64_big (g := g0) (by omega)
        have ha := andU_255 g0
        have he : s64 (andU g0 255) = andU g0 255 := s64_in (by omega)
        have hwy : (inp4 g0).Wf := ⟨zi, zu, zu, zm, zi, zi, zi, zu, zu, s64_range _⟩
        rw [unpackF, refUnpackF, if_neg hk, if_neg hk, unp4, ref4, ← pack_eq hwy]
        have hx : toldE ⟨2, 0, 0, 0, 0, 0, 0, 0, 0, 0, s64 g0⟩ = 40 := by
          show (if ([upToF 9001 (s64 g0) 255].all (·.fits)) = true ∧ _ then (0 : Int) else 40) = 40
          refine if_neg (fun h => hb ?_)
          have := h.1
          simpa [upToF] using this
        rw [if_neg, if_neg]
        · rintro ⟨e1, e2⟩
          have ht : toldE (inp4 g0) = 0 := by
            unfold packF at e1
            split at e1
            · assumption
            · exact e1
          rw [packF, if_pos ht] at e2
          have e3 : frameF 4 (numsF [upToF 9001 (s64 (andU g0 255)) 255]) = ⟨4, [g0, g1, g2, g3, g4, g5, g6]⟩ := e2
          have e4 : add64 0 (s64 (andU g0 255) % 18446744073709551616) = g0 := by
            have := congrArg Frame.words e3
            simp only [frameF] at this
            exact (List.cons.inj this).1
          rw [he, Int.emod_eq_of_lt ha.1 (by omega), add64_zero (by omega)] at e4
          omega
        · rintro ⟨e1, e2⟩
          rw [packF, if_neg (by rw [hx]; decide), hx] at e1
          cases e1
theorem open_frame {H : Type} {enc : TypeId × Value → H} {W : World} {base : Nat} {v : Value} {d : DataW H} {p : List MemPlace} (hv : Value.okWide Go.Proofs.Try.prog W .any base 30 v) (h : DataW.Trod enc Go.Proofs.Try.prog W 0 (fun _ => true) true 30 v d p) :
    ∃ k g0 g1 g2 g3 g4 g5 g6, v = .agg (frV k g0 g1 g2 g3 g4 g5 g6).toArray ∧ (0 ≤ k ∧ k ≤ 255) ∧ (0 ≤ g0 ∧ g0 ≤ 18446744073709551615) ∧ (0 ≤ g1 ∧ g1 ≤ 18446744073709551615) ∧ (0 ≤ g2 ∧ g2 ≤ 18446744073709551615) ∧ (0 ≤ g3 ∧ g3 ≤ 18446744073709551615) ∧ (0 ≤ g4 ∧ g4 ≤ 18446744073709551615) ∧ (0 ≤ g5 ∧ g5 ≤ 18446744073709551615) ∧ (0 ≤ g6 ∧ g6 ≤ 18446744073709551615) := by
  obtain ⟨cs, rfl, hcs⟩ := okWide_struct Go.Proofs.Try.underlying30 hv
  obtain ⟨fuel, hf⟩ := h
  have hp := trod_plain 20 _ _ so.api_Frame fuel _ _ hf
  have e : (Value.agg cs).cells.toList = cs.toList := rfl
  rw [e] at hp
  obtain ⟨ha, hb⟩ := hp
  obtain ⟨c0, r0, q0, i0, ha⟩ := areSorts_cons ha
  obtain ⟨c1, r1, rfl, i1, ha⟩ := areSorts_cons ha
  obtain ⟨c2, r2, rfl, i2, ha⟩ := areSorts_cons ha
  obtain ⟨c3, r3, rfl, i3, ha⟩ := areSorts_cons ha
  obtain ⟨c4, r4, rfl, i4, ha⟩ := areSorts_cons ha
  obtain ⟨c5, r5, rfl, i5, ha⟩ := areSorts_cons ha
  obtain ⟨c6, r6, rfl, i6, ha⟩ := areSorts_cons ha
  obtain ⟨c7, r7, rfl, i7, ha⟩ := areSorts_cons ha
  obtain rfl := areSorts_nil ha
  rw [q0] at hb
  simp only [List.all_cons, List.all_nil, Bool.and_eq_true] at hb
  obtain ⟨n0, rfl, w0⟩ := isSort_int' i0 hb.1
  obtain ⟨n1, rfl, w1⟩ := isSort_int' i1 hb.2.1
  obtain ⟨n2, rfl, w2⟩ := isSort_int' i2 hb.2.2.1
  obtain ⟨n3, rfl, w3⟩ := isSort_int' i3 hb.2.2.2.1
  obtain ⟨n4, rfl, w4⟩ := isSort_int' i4 hb.2.2.2.2.1
  obtain ⟨n5, rfl, w5⟩ := isSort_int' i5 hb.2.2.2.2.2.1
  obtain ⟨n6, rfl, w6⟩ := isSort_int' i6 hb.2.2.2.2.2.2.1
  obtain ⟨n7, rfl, w7⟩ := isSort_int' i7 hb.2.2.2.2.2.2.2.1
  refine ⟨n0, n1, n2, n3, n4, n5, n6, n7, ?_, wf_bounds w0, wf_bounds w1, wf_bounds w2, wf_bounds w3, wf_bounds w4, wf_bounds w5, wf_bounds w6, wf_bounds w7⟩
  congr 1
  apply Array.ext'
  rw [q0]
  rfl
theorem refUnpack {w : World} {k g0 g1 g2 g3 g4 g5 g6 : Int} (hk8 : 0 ≤ k ∧ k ≤ 255) : Spec Go.Proofs.Try.prog 13 #[.agg (frV k g0 g1 g2 g3 g4 g5 g6).toArray] w [] (fun u _ => u = unpackV (refUnpackF ⟨k, [g0, g1, g2, g3, g4, g5, g6]⟩)) := by
  by_cases h : 1 ≤ k ∧ k ≤ 4
  · exact refUnpack1 h
  · exact refUnpack0 hk8 h
set_option maxHeartbeats 2000000 in
theorem lawUnpacks {w : World} {k g0 g1 g2 g3 g4 g5 g6 : Int} (hk : 0 ≤ k ∧ k ≤ 255) (b0 : 0 ≤ g0 ∧ g0 ≤ 18446744073709551615) (b1 : 0 ≤ g1 ∧ g1 ≤ 18446744073709551615) (b4 : 0 ≤ g4 ∧ g4 ≤ 18446744073709551615) (b5 : 0 ≤ g5 ∧ g5 ≤ 18446744073709551615) :
    Spec Go.Proofs.Try.prog 5 #[.agg (frV k g0 g1 g2 g3 g4 g5 g6).toArray] w [] (fun u _ => u = .bool true) := by
  have hQ := unpack_eq (k := k) (g2 := g2) (g3 := g3) (g6 := g6) b0 b1 b4 b5
  generalize hP : unpackF ⟨k, [g0, g1, g2, g3, g4, g5, g6]⟩ = pr at hQ
  obtain ⟨x, ee⟩ := pr
  refine Spec.enter (fn := Go.Proofs.Try.f5) (n := 25) [.agg (frV k g0 g1 g2 g3 g4 g5 g6).toArray] Go.Proofs.Try.func5 (by kernel_rfl) rfl Go.Proofs.Try.ntmps5 Go.Proofs.Try.results5 rfl (Own.nil _) ?_
  refine JC.rs ?_
  refine Seq.box (cs := [_, _, _, _, _, _, _, _]) (k := ?_); intro b1
  refine Seq.p rfl Ev.assign ?_
  refine Seq.nil ?_
  refine JC.rs ?_
  refine Seq.p rfl (Ev.ldBA ag.api_Frame) ?_
  refine Seq.callP rfl (fun w hw => hP ▸ msgUnpack) ?_
  refine Seq.p rfl Ev.move ?_
  refine Seq.p rfl Ev.extract ?_
  refine Seq.p rfl Ev.extract ?_
  refine Seq.alloc (cs := [_, _, _, _, _, _, _, _, _, _, _]) (hz := z.api_Input) (k := ?_); intro b3
  refine Seq.storeN [_, _, _, _, _, _, _, _, _, _, _] sz.api_Input (k := ?_)
  refine Seq.p rfl Ev.assign ?_
  refine Seq.nil ?_
  refine JC.rs ?_
  refine Seq.p rfl (Ev.ldBA ag.api_Frame) ?_
  refine Seq.callP rfl (fun w hw => hQ.symm ▸ refUnpack hk) ?_
  refine Seq.p rfl Ev.move ?_
  refine Seq.p rfl Ev.extract ?_
  refine Seq.p rfl Ev.extract ?_
  refine Seq.alloc (cs := [_, _, _, _, _, _, _, _, _, _, _]) (hz := z.api_Input) (k := ?_); intro b5
  refine Seq.storeN [_, _, _, _, _, _, _, _, _, _, _] sz.api_Input (k := ?_)
  refine Seq.p rfl Ev.assign ?_
  refine Seq.nil ?_
  refine JC.rs ?_
  refine Seq.p rfl (Ev.ldBA ag.api_Input) ?_
  refine Seq.p rfl (Ev.ldBA ag.api_Input) ?_
  refine Seq.p rfl (Ev.eqAg so.api_Input ag.api_Input gd.api_Input) ?_
  refine Seq.p rfl Ev.move ?_
  refine Seq.split (d := 20) (k := ?_)
  rintro (_|_) h20
  · try simp only [decide_eq_true_eq, decide_eq_false_iff_not] at h20
    exact absurd h20 (by rw [eqL_refl _ rfl]; decide)
  · try simp only [decide_eq_true_eq, decide_eq_false_iff_not] at h20
    refine Seq.gy rfl rfl rfl ?_
    refine Seq.p rfl Ev.move ?_
    refine Seq.gy rfl rfl rfl ?_
    refine Seq.p rfl Ev.move ?_
    refine Seq.gy rfl rfl rfl ?_
    refine Seq.p rfl Ev.eq ?_
    refine Seq.p rfl Ev.pickT ?_
    refine Seq.p rfl Ev.assign ?_
    refine Seq.nil ?_
    refine JC.ret ?_
    -- return 0
    show retQ _ _ _ _ _ _ _ _
    refine ret1 (hp := Part.nil _) (hpost := ?_)
    simp
end Go.Rx
namespace Go.Proofs.Ytdfleghechbcpaa
open Go Go.RowKit Go.WideShapes Go.ChangeShapes Go.ChangeAt Go.Rx
set_option linter.unusedVariables false
set_option maxRecDepth 100000 in
theorem messageUnpacks_lifted (os : Os) (started : os.Started) (H : Type) (enc : TypeId × Value → H) :
    ReturnsInHanded {} Try.checked os 5 .any (Rows.messageUnpacksSpec.pre6 enc Try.prog Try.f5 Rows.messageUnpacksRow.domain false) (Rows.messageUnpacksSpec.post enc Try.prog Try.f5 false true false false) := by
  refine returnsInHanded_of_change_sized (C := Try.checked) Try.own started (by kernel_rfl) Try.func5
    (ChangeSpec.witness6 (enc := enc) (C := Try.checked) false ⟨#[], #[.agg #[.int .u8 0, .int .u64 0, .int .u64 0, .int .u64 0, .int .u64 0, .int .u64 0, .int .u64 0, .int .u64 0]], []⟩ 8 (by kernel_rfl) (by kernel_rfl) (by kernel_rfl) (by kernel_rfl)) ?_
  intro W base args ds gs before hval0 hW hcnd hsz0 _
  have hsz : (DataW.weightsEach Try.prog (Try.f5.params.toList ++ Rows.messageUnpacksSpec.plain.varTypes Try.prog) (ds ++ gs)).all (· ≤ reachBytes) = true := hsz0
  have hval : ∀ (j : Nat) t v, Try.f5.params[j]? = some t → args[j]? = some v → Value.okWide Try.prog W .any base t v := hval0
  have hW' := hW
  obtain ⟨p, q, hA0, hV, rfl, hfz, hnd⟩ := hW
  have hA : DataW.TrodAll enc Try.prog W 0 (fun _ => true) true Try.f5.params.toList args.toList ds p := hA0
  rw [Try.params5] at hA hval hsz
  obtain ⟨v0, vs0, d0, ds0, p0, q0, hargs, rfl, rfl, h0, r0⟩ := trodAll_cons hA
  obtain ⟨rfl, rfl, rfl⟩ := trodAll_nil r0
  obtain rfl : args = #[v0] := by cases args; simp_all
  obtain ⟨rfl, rfl⟩ := trodVars_none hV
  have k0 := h0
  have lt0 : ∀ x ∈ p0, x.block < W.heap.size := by obtain ⟨m, hm⟩ := k0; exact DataW.trod_lt m _ _ _ hm
  have hv0 := hval 0 30 v0 rfl rfl
  have hl0 : Light Try.prog 30 d0 := light_arg hsz (j := 0) rfl rfl
  obtain ⟨k, g0, g1, g2, g3, g4, g5, g6, rfl, bk, b0, b1, b2, b3, b4, b5, b6⟩ := open_frame hv0 h0
  clear hA0 hval0 hsz0 hsz
  refine (lawUnpacks (g2 := g2) (g3 := g3) (g6 := g6) bk b0 b1 b4 b5).2.mono ?_
  rintro e W' ⟨_, H', rfl, hu, rfl⟩
  have bel := hu.below'
  exact ⟨_, rfl, _, _, _, [], _, [], hW', trodAll_mk1 (shut_bool Go.Proofs.Try.underlying4 _), (trodAll_cons_mk (Below.trod Try.laidOut (by kernel_rfl) (of_decide_eq_true (by kernel_rfl)) k0 bel lt0) trodAll_mk0), rfl, bel.frame _, fun h => by cases h⟩
theorem messageUnpacks_holds : Rows.MessageUnpacksSaid :=
  OpenClaim.holds_of_wide 5 Try.f5 rfl rfl rfl rfl rfl rfl rfl ⟨rfl, rfl, rfl, rfl, rfl⟩ rfl rfl rfl rfl rfl (by kernel_rfl) Try.func5 (by kernel_rfl)
    (of_decide_eq_true (by kernel_rfl)) (by unfold Func.isWrapper; first | (rw [if_pos (by decide +kernel)]; kernel_rfl) | (rw [if_neg (by decide +kernel)]; exact ⟨rfl, rfl⟩))
    (fun os started H enc _ => messageUnpacks_lifted os started H enc)
#print axioms messageUnpacks_holds
end Go.Proofs.Ytdfleghechbcpaa
