/- The law bourselaw12.SnapshotEncodes gives true, whatever the book; the input reads as it did. No condition beyond the row's own. -/
import Derived.Test.YtkmakbkchnibkaaV7
import Derived.Test.YtkmakbkchnibkaaA8
namespace Go.Rx
open Go Go.RowKit Go.WideShapes
set_option linter.unusedVariables false
set_option linter.unusedSimpArgs false
theorem wfV_bounds {k : IntKind} {n : Int} (h : wfV (.int k n) = true) : k.min ≤ n ∧ n ≤ k.max := by
  have h2 : (Lit.int k n).wf = true := h
  unfold Lit.wf at h2
  rw [Bool.and_eq_true] at h2
  exact ⟨of_decide_eq_true h2.1, of_decide_eq_true h2.2⟩
theorem wf_rest {o : Resting} (h : o.enc.all wfV = true) : o.Wf := by
  simp only [Resting.enc, List.all_cons, List.all_nil, Bool.and_true, Bool.and_eq_true] at h
  obtain ⟨h1, h2, h3, h4, h5, h6, h7⟩ := h
  exact ⟨wfV_bounds h1, wfV_bounds h2, wfV_bounds h3, wfV_bounds h4, wfV_bounds h5, wfV_bounds h6, wfV_bounds h7⟩
set_option maxHeartbeats 4000000 in
set_option maxRecDepth 100000 in
theorem lawEncodes {w : World} {b : Book} {vb vs : Value} (hb : RSl Resting.enc 7 w [] vb b.buys) (hs : RSl Resting.enc 7 w [] vs b.sells) (wf : b.Wf) (lb : b.buys.length * 56 ≤ 140737488355328) (ls : b.sells.length * 56 ≤ 140737488355328) :
    Spec Go.Proofs.Try.prog 5 #[.agg (bookV b vb vs).toArray] w [] (fun u _ => u = .bool true) := by
  have hb1 := hb.small
  have hs1 := hs.small
  have hol : (outB b).length ≤ 1000000 := by
    unfold outB
    split
    · rename_i h
      have hok := validE_ok h
      have hcf := cfgB_iff.1 hok.1
      have hln := hok.2.1
      rw [encB, List.length_append, bodyB, List.length_append, items_length, headB_length, leB_length, List.length_append]
      omega
    · exact Nat.zero_le _
  obtain ⟨Ab, cb, rfl, _, _⟩ := hb.shape
  obtain ⟨As, cs, rfl, _, _⟩ := hs.shape
  generalize hvb : Value.slice Ab b.buys.length cb = vb at hb
  generalize hvs : Value.slice As b.sells.length cs = vs at hs
  subst hvb hvs
  refine Spec.enter (fn := Go.Proofs.Try.f5) (n := 61) [.agg (bookV b (.slice Ab b.buys.length cb) (.slice As b.sells.length cs)).toArray] Go.Proofs.Try.func5 (by kernel_rfl) rfl Go.Proofs.Try.ntmps5 Go.Proofs.Try.results5 rfl (Own.nil _) ?_
  refine JC.rs ?_
  refine Seq.box (cs := [_, _, _, _, _, _]) (k := ?_); intro b1
  refine Seq.p rfl Ev.assign ?_
  refine Seq.nil ?_
  refine JC.rs ?_
  refine Seq.p rfl (Ev.ldBA ag.api_Book) ?_
  refine Seq.call rfl (fun w hw => refCopy (hb.up hw) (hs.up hw) lb ls) (F := _) (by exact List.Perm.refl _) ?_
  rintro _ _ ⟨A1, c1, A2, c2, rfl, rfl⟩
  simp only [List.cons_append, List.nil_append]
  refine Seq.alloc (cs := [_, _, _, _, _, _]) (hz := z.api_Book) (k := ?_); intro b3
  refine Seq.storeN [_, _, _, _, _, _] sz.api_Book (k := ?_)
  refine Seq.nil ?_
  refine JC.rs ?_
  refine Seq.p rfl (Ev.ldBA ag.api_Book) ?_
  refine Seq.call rfl (fun w hw => snapEncode (b := b) (RAt.up (RAt.own (enc := Resting.enc) (xs := b.buys)) hw) (RAt.up (RAt.own (enc := Resting.enc) (xs := b.sells)) hw) wf) (F := _) (by exact List.Perm.refl _) ?_
  rintro _ _ ⟨A15, c15, rfl, rfl⟩
  simp only [List.cons_append, List.nil_append]
  refine Seq.p rfl Ev.move ?_
  refine Seq.p rfl Ev.extract ?_
  refine Seq.p rfl Ev.extract ?_
  refine Seq.p rfl Ev.assign ?_
  refine Seq.p rfl Ev.assign ?_
  refine Seq.nil ?_
  refine JC.rs ?_
  refine Seq.p rfl (Ev.ldBA ag.api_Book) ?_
  refine Seq.call rfl (fun w hw => snapEncode (b := b) (RAt.up (RAt.own (enc := Resting.enc) (xs := b.buys)) hw) (RAt.up (RAt.own (enc := Resting.enc) (xs := b.sells)) hw) wf) (F := _) (by exact List.Perm.refl _) ?_
  rintro _ _ ⟨A20, c20, rfl, rfl⟩
  simp only [List.cons_append, List.nil_append]
  refine Seq.p rfl Ev.move ?_
  refine Seq.p rfl Ev.extract ?_
  refine Seq.p rfl Ev.extract ?_
  refine Seq.p rfl Ev.assign ?_
  refine Seq.p rfl Ev.assign ?_
  refine Seq.nil ?_
  refine JC.rs ?_
  refine Seq.p rfl (Ev.ldBA ag.api_Book) ?_
  refine Seq.call rfl (fun w hw => refEncode (b := b) (hb.up hw) (hs.up hw) wf) (F := _) (by exact List.Perm.refl _) ?_
  rintro _ _ ⟨A25, c25, rfl, rfl⟩
  simp only [List.cons_append, List.nil_append]
  refine Seq.p rfl Ev.move ?_
  refine Seq.p rfl Ev.extract ?_
  refine Seq.p rfl Ev.extract ?_
  refine Seq.p rfl Ev.assign ?_
  refine Seq.p rfl Ev.assign ?_
  refine Seq.nil ?_
  refine JC.seq ?_
  refine JC.rs ?_
  refine Seq.p rfl Ev.move ?_
  refine Seq.p rfl Ev.move ?_
  refine Seq.p rfl Ev.ne ?_
  refine Seq.p rfl Ev.move ?_
  refine Seq.orG (D := [31, 32, 33, 34, 35, 36, 37]) (d := 31) (t := 37) (k := 6) (hn := fun h31 => ?_) (hx := ?_)
  · repeat (first | refine Seq.gn rfl rfl rfl rfl ?_ | refine Seq.gu rfl rfl rfl ?_)
    refine Seq.p rfl Ev.pickT ?_
    exact Seq.nil ⟨rfl, (by repeat (first | with_reducible exact Off.refl | refine Off.upd ?_ rfl | exact Off.mix | refine Off.mix2 ?_ rfl)), Look.here⟩
  apply Exists.intro
  refine ⟨fun h31 => ?_, fun u37 => ?_⟩
  · try simp only [decide_eq_true_eq, decide_eq_false_iff_not, Bool.and_eq_true, Bool.or_eq_true, Bool.not_eq_true', Bool.not_eq_false', Bool.or_eq_false_iff, Bool.and_eq_false_imp] at h31
    refine Seq.gy rfl rfl rfl ?_
    refine Seq.p rfl Ev.move ?_
    refine Seq.gy rfl rfl rfl ?_
    refine Seq.p rfl (Ev.strOf sl.sl_uint8 it.uint8 st.string (hr := RAt.own (enc := byteEnc) (xs := outB b))) ?_
    refine Seq.gy rfl rfl rfl ?_
    refine Seq.p rfl Ev.move ?_
    refine Seq.gy rfl rfl rfl ?_
    refine Seq.p rfl (Ev.strOf sl.sl_uint8 it.uint8 st.string (hr := RAt.own (enc := byteEnc) (xs := outB b))) ?_
    refine Seq.gy rfl rfl rfl ?_
    refine Seq.p rfl Ev.neStr ?_
    refine Seq.p rfl Ev.pickF ?_
    exact Seq.nil ⟨rfl, (by repeat (first | with_reducible exact Off.refl | refine Off.upd ?_ rfl | exact Off.mix | refine Off.mix2 ?_ rfl)), Look.here⟩
  refine Seq.p rfl Ev.move ?_
  refine Seq.orG (D := [38, 39, 40, 41, 42, 43]) (d := 38) (t := 43) (k := 5) (hn := fun h38 => ?_) (hx := ?_)
  · repeat (first | refine Seq.gn rfl rfl rfl rfl ?_ | refine Seq.gu rfl rfl rfl ?_)
    refine Seq.p rfl Ev.pickT ?_
    exact Seq.nil ⟨rfl, (by repeat (first | with_reducible exact Off.refl | refine Off.upd ?_ rfl | exact Off.mix | refine Off.mix2 ?_ rfl)), Look.here⟩
  apply Exists.intro
  refine ⟨fun h38 => ?_, fun u43 => ?_⟩
  · try simp only [decide_eq_true_eq, decide_eq_false_iff_not, Bool.and_eq_true, Bool.or_eq_true, Bool.not_eq_true', Bool.not_eq_false', Bool.or_eq_false_iff, Bool.and_eq_false_imp] at h38
    refine Seq.gy rfl rfl rfl ?_
    refine Seq.p rfl (Ev.ldBA ag.api_Book) ?_
    refine Seq.gy rfl rfl rfl ?_
    refine Seq.p rfl (Ev.ldBA ag.api_Book) ?_
    refine Seq.gy rfl rfl rfl ?_
    refine Seq.callP rfl (fun w hw => refSame (a := b) (b := b) (RAt.up (RAt.own (enc := Resting.enc) (xs := b.buys)) hw) (RAt.up (RAt.own (enc := Resting.enc) (xs := b.sells)) hw) (hb.up hw) (hs.up hw)) ?_
    refine Seq.gy rfl rfl rfl ?_
    refine Seq.p rfl Ev.not ?_
    refine Seq.p rfl Ev.pickF ?_
    exact Seq.nil ⟨rfl, (by repeat (first | with_reducible exact Off.refl | refine Off.upd ?_ rfl | exact Off.mix | refine Off.mix2 ?_ rfl)), Look.here⟩
  refine Seq.nil ?_
  first | refine JC.c (ht := fun c43 => ?_) (hf := fun c43 => ?_) | refine JC.cb (ht := fun c43 => ?_) (hf := fun c43 => ?_)
  · -- then_t43
    exfalso
    simp at c43
  · -- else_t43
    refine JC.skip ?_
    refine JC.seq ?_
    refine JC.rs ?_
    refine Seq.p rfl Ev.assign ?_
    refine Seq.nil ?_
    refine JC.blk ?_
    refine JC.part (H' := [bytesC (.slice A25 (outB b).length c25) (outB b), bytesC (.slice A20 (outB b).length c20) (outB b), bytesC (.slice A15 (outB b).length c15) (outB b)]) (Part.here (Part.here (Part.here (Part.nil _)))) ?_
    refine JC.loop (α := Nat × List Int) (I := fun s e1 H1 => Has [10, 44, 45, 46, 47, 48, 49, 50, 51, 52] [(10, .int .i64 (s.1 : Int))] _ e1 ∧ H1 = [bytesC (.slice A25 (outB b).length c25) (outB b), bytesC (.slice A20 (outB b).length c20) (outB b), bytesC (.slice A15 (outB b).length c15) s.2] ∧ s.1 ≤ (outB b).length ∧ s.2.length = (outB b).length) (μ := fun s => (outB b).length - s.1) (0, outB b) ⟨Has.mk Off.refl (allLook_cons (by repeat (first | exact Look.here | apply Look.there (hne := rfl) | exact Look.const | apply Look.mix rfl | exact Look.arg0 | apply Look.args | exact Look.func)) allLook_nil), rfl, by omega, rfl⟩ ?_
    rintro ⟨i, l'⟩ _ _ ⟨⟨u, rfl⟩, rfl, hi, hl'⟩; dsimp only [setL]; dsimp only at hi hl'
    refine JC.seq ?_
    refine JC.rs ?_
    refine Seq.p rfl Ev.move ?_
    refine Seq.p rfl Ev.move ?_
    refine Seq.p rfl (Ev.lenSl sl.sl_uint8 (hr := RAt.own (enc := byteEnc) (xs := l'))) ?_
    refine Seq.p rfl Ev.lt ?_
    refine Seq.nil ?_
    first | refine JC.c (ht := fun c47 => ?_) (hf := fun c47 => ?_) | refine JC.cb (ht := fun c47 => ?_) (hf := fun c47 => ?_)
    · -- then_t47
      have hi2 : i < l'.length := by omega
      refine JC.skip ?_
      refine JC.seq ?_
      refine JC.blk ?_
      refine JC.reg ?_
      refine Seq.p rfl Ev.move ?_
      refine Seq.p rfl Ev.move ?_
      refine Seq.p rfl (Ev.iaN sl.sl_uint8 (hr := RAt.own (enc := byteEnc) (xs := l'))) ?_
      refine Seq.stOwn (enc := byteEnc) (xs := l') (q := i) 238 sz.uint8 (by decide) (h1 := byteOne) (k := ?_)
      refine Seq.nil ?_
      refine JC.reg ?_
      refine Seq.p rfl Ev.move ?_
      refine Seq.p rfl (by first | exact Ev.inc | exact Ev.add) ?_
      refine Seq.p rfl Ev.assign ?_
      refine Seq.nil ?_
      refine ⟨(i + 1, l'.set i 238), _, Part.refl _, ⟨Has.mk (by repeat (first | refine Off.upd ?_ rfl | exact Off.mix | refine Off.mix2 ?_ rfl | exact Off.refl)) (allLook_cons (by repeat (first | exact Look.here | apply Look.there (hne := rfl) | exact Look.const | apply Look.mix rfl | exact Look.arg0 | apply Look.args | exact Look.func)) allLook_nil), rfl, by show i + 1 ≤ (outB b).length; omega, by show (l'.set i 238).length = _; rw [List.length_set]; exact hl'⟩, by show (outB b).length - (i + 1) < (outB b).length - i; omega⟩
    · -- else_t47
      refine JC.exit ?_ -- 0
      refine JC.rs ?_
      refine Seq.p rfl Ev.move ?_
      refine Seq.buildSlN [_, _] (hsl := sl.sl_uint8) (hz := z.uint8) (k := ?_); intro b54
      refine Seq.append (hsl := sl.sl_uint8) (he := el.uint8) (hsrc := (fun w' hw => Src.box (news := [.int .u8 221, .int .u8 221]) sl.sl_uint8 At.z hw rfl (fun q u hu => hu))) (k := ?_); intro A55 c55
      refine Seq.nil ?_
      refine JC.rs ?_
      refine Seq.p rfl Ev.move ?_
      refine Seq.p rfl (Ev.strOf sl.sl_uint8 it.uint8 st.string (hr := RAt.own (enc := byteEnc) (xs := outB b))) ?_
      refine Seq.p rfl Ev.move ?_
      refine Seq.p rfl (Ev.strOf sl.sl_uint8 it.uint8 st.string (hr := RAt.own (enc := byteEnc) (xs := outB b))) ?_
      refine Seq.p rfl Ev.eqStr ?_
      refine Seq.p rfl Ev.assign ?_
      refine Seq.nil ?_
      refine JC.ret ?_
      -- return 0
      show retQ _ _ _ _ _ _ _ _
      refine ret1 (hp := Part.nil _) (hpost := ?_)
      simp
end Go.Rx
namespace Go.Proofs.Ytkmakbkchnibkaa
open Go Go.RowKit Go.WideShapes Go.ChangeShapes Go.ChangeAt Go.Rx
set_option linter.unusedVariables false
set_option maxRecDepth 100000 in
theorem snapshotEncodes_lifted (os : Os) (started : os.Started) (H : Type) (enc : TypeId × Value → H) :
    ReturnsInHanded {} Try.checked os 5 .any (Rows.snapshotEncodesSpec.pre6 enc Try.prog Try.f5 Rows.snapshotEncodesRow.domain false) (Rows.snapshotEncodesSpec.post enc Try.prog Try.f5 false true false false) := by
  refine returnsInHanded_of_change_sized (C := Try.checked) Try.own started (by kernel_rfl) Try.func5
    (ChangeSpec.witness6 (enc := enc) (C := Try.checked) false ⟨#[], #[.agg #[.int .i64 0, .int .i64 0, .slice none 0 0, .slice none 0 0, .int .u64 0, .int .u64 0]], []⟩ 8 (by kernel_rfl) (by kernel_rfl) (by kernel_rfl) (by kernel_rfl)) ?_
  intro W base args ds gs before hval0 hW hcnd hsz0 _
  have hsz : (DataW.weightsEach Try.prog (Try.f5.params.toList ++ Rows.snapshotEncodesSpec.plain.varTypes Try.prog) (ds ++ gs)).all (· ≤ reachBytes) = true := hsz0
  have hval : ∀ (j : Nat) t v, Try.f5.params[j]? = some t → args[j]? = some v → Value.okWide Try.prog W .any base t v := hval0
  have hW' := hW
  obtain ⟨p, q, hA0, hV, rfl, hfz, hnd⟩ := hW
  have hA : DataW.TrodAll enc Try.prog W 0 (fun _ => true) true Try.f5.params.toList args.toList ds p := hA0
  rw [Try.params5] at hA hval hsz
  obtain ⟨v0, vs0, d0, ds0, p0, q0, hargs, rfl, rfl, h0, r0⟩ := trodAll_cons hA
  obtain ⟨rfl, rfl, rfl⟩ := trodAll_nil r0
  obtain rfl : args = #[v0] := by cases args; simp_all
  obtain ⟨rfl, rfl⟩ := trodVars_none hV
  have k0 := h0
  have lt0 : ∀ x ∈ p0, x.block < W.heap.size := by obtain ⟨m, hm⟩ := k0; exact DataW.trod_lt m _ _ _ hm
  have hv0 := hval 0 27 v0 rfl rfl
  have hl0 : Light Try.prog 27 d0 := light_arg hsz (j := 0) rfl rfl
  obtain ⟨a, vab, vas, rfl, hab, has, la, ma, w1, w2, w3, w4, w5, w6⟩ := open_book hv0 h0 hl0
  clear hA0 hval0 hsz0 hsz
  refine (lawEncodes hab has ⟨fun o h => wf_rest (w1 o h), fun o h => wf_rest (w2 o h), wfV_bounds w3, wfV_bounds w4, wfV_bounds w5, wfV_bounds w6⟩ (by omega) (by omega)).2.mono ?_
  rintro e W' ⟨_, H', rfl, hu, rfl⟩
  have bel := hu.below'
  exact ⟨_, rfl, _, _, _, [], _, [], hW', trodAll_mk1 (shut_bool Go.Proofs.Try.underlying4 _), (trodAll_cons_mk (Below.trod Try.laidOut (by kernel_rfl) (of_decide_eq_true (by kernel_rfl)) k0 bel lt0) trodAll_mk0), rfl, bel.frame _, fun h => by cases h⟩
theorem snapshotEncodes_holds : Rows.SnapshotEncodesSaid :=
  OpenClaim.holds_of_wide 5 Try.f5 rfl rfl rfl rfl rfl rfl rfl ⟨rfl, rfl, rfl, rfl, rfl⟩ rfl rfl rfl rfl rfl (by kernel_rfl) Try.func5 (by kernel_rfl)
    (of_decide_eq_true (by kernel_rfl)) (by unfold Func.isWrapper; first | (rw [if_pos (by decide +kernel)]; kernel_rfl) | (rw [if_neg (by decide +kernel)]; exact ⟨rfl, rfl⟩))
    (fun os started H enc _ => snapshotEncodes_lifted os started H enc)
#print axioms snapshotEncodes_holds
end Go.Proofs.Ytkmakbkchnibkaa
