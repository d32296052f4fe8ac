/- The law bourselaw12.SnapshotDecodes gives true, whatever the bytes; the input reads as it did. No condition beyond the row's own. -/
import Derived.Test.YtkmakbkchnibkaaW4
import Derived.Test.YtkmakbkchnibkaaA8
namespace Go.Rx
open Go Go.RowKit Go.WideShapes
set_option linter.unusedVariables false
set_option linter.unusedSimpArgs false
def fiveL : List Int := [1, 2, 3, 4, 5]
theorem bytesC_append (v : Value) (l m : List Int) : Chunk.own 5 1 v (l.length + m.length) (l.flatMap byteEnc ++ m.flatMap byteEnc) = bytesC v (l ++ m) := by
  simp only [bytesC, List.length_append, List.flatMap_append]
set_option maxRecDepth 100000 in
theorem lawHand {w : World} {v : Value} {l : List Int} (hr : RSl byteEnc 1 w [] v l) (hl : l.length + 5 ≤ 140737488355328) :
    Spec Go.Proofs.Try.prog 11 #[v] w [] (fun u N => ∃ A c, u = .slice A (l.length + 5) c ∧ N = [bytesC u (l ++ fiveL)]) := by
  refine Spec.enter (fn := Go.Proofs.Try.f11) (n := 10) [v] Go.Proofs.Try.func11 (by kernel_rfl) rfl Go.Proofs.Try.ntmps11 Go.Proofs.Try.results11 rfl (Own.nil _) ?_
  refine JC.rs ?_
  refine Seq.p rfl Ev.assign ?_
  refine Seq.nil ?_
  refine JC.rs ?_
  refine Seq.buildSlN [] (hsl := sl.sl_uint8) (hz := z.uint8) (k := ?_); intro b4
  refine Seq.re (fun w h => Upd.boxOwn h (n := 0) (size := 1) At.z rfl (by omega)) ?_
  refine Seq.p rfl Ev.move ?_
  refine Seq.append (hsl := sl.sl_uint8) (he := el.uint8) (hsrc := fun w' hw => Src.rsl sl.sl_uint8 (hr.up hw) (by omega) byteOne) (k := ?_); intro A6 c6
  rw [Nat.zero_add, List.nil_append]
  refine Seq.p rfl Ev.assign ?_
  refine Seq.nil ?_
  refine JC.rs ?_
  refine Seq.p rfl Ev.move ?_
  refine Seq.buildSlS [_, _, _, _, _] (hsl := sl.sl_uint8) (hz := z.uint8) (k := ?_); intro b8
  refine Seq.append (j := 5) (hsl := sl.sl_uint8) (he := el.uint8) (hsrc := fun w' hw => Src.box (news := fiveL.flatMap byteEnc) sl.sl_uint8 At.z hw rfl (fun q u hu => hu)) (k := ?_); intro A9 c9
  refine Seq.p rfl Ev.assign ?_
  refine Seq.nil ?_
  refine JC.ret ?_
  -- return 0
  show retQ _ _ _ _ _ _ _ _
  refine ret1 (H' := [bytesC (.slice A9 (l.length + 5) c9) (l ++ fiveL)]) (hp := ?_) (hpost := ?_)
  · rw [← bytesC_append]; exact Part.skip (Part.here (Part.nil _))
  · exact ⟨_, _, rfl, rfl⟩
theorem strOf_append (a b : List Int) : strOf (a ++ b) = strOf a ++ strOf b := by
  have h : ∀ (x y : ByteArray), x.data.toList = y.data.toList → x = y := by
    intro x y hxy
    cases x; cases y
    simpa using hxy
  apply h
  rw [strOf_toList]
  have e : (strOf a ++ strOf b).data.toList = (strOf a).data.toList ++ (strOf b).data.toList := by
    rw [ByteArray.data_append, Array.toList_append]
  rw [e, strOf_toList, strOf_toList, List.map_append]
set_option maxRecDepth 100000 in
theorem lawLeft {w : World} {vi v : Value} {l : List Int} (hr : RSl byteEnc 1 w [bytesC vi (l ++ fiveL)] v l) (hl : l.length + 5 ≤ 140737488355328) (ho : Own w [bytesC vi (l ++ fiveL)]) :
    Spec Go.Proofs.Try.prog 14 #[vi, v] w [bytesC vi (l ++ fiveL)] (fun u N => ∃ c', N = [c'] ∧ u = .bool true ∧ ∃ l', c' = bytesC vi l') := by
  have hlf : (l ++ fiveL).length = l.length + 5 := by simp [fiveL]
  have hst : (strOf l).size ≤ 140737488355328 := by
    have := bytesOf_length (strOf l)
    have h2 : (strOf l).data.toList.length = l.length := by rw [strOf_toList, List.length_map]
    have h3 : (strOf l).size = (strOf l).data.toList.length := by simp
    omega
  refine Spec.enter (fn := Go.Proofs.Try.f14) (n := 23) [vi, v] Go.Proofs.Try.func14 (by kernel_rfl) rfl Go.Proofs.Try.ntmps14 Go.Proofs.Try.results14 rfl ho ?_
  refine JC.rs ?_
  refine Seq.p rfl Ev.assign ?_
  refine Seq.nil ?_
  refine JC.rs ?_
  refine Seq.p rfl Ev.move ?_
  refine Seq.p rfl (Ev.strOf sl.sl_uint8 it.uint8 st.string (hr := RAt.own (enc := byteEnc) (xs := l ++ fiveL))) ?_
  refine Seq.p rfl Ev.move ?_
  refine Seq.p rfl (Ev.strOf sl.sl_uint8 it.uint8 st.string (hr := hr.r)) ?_
  refine Seq.p rfl (Ev.addStr (h := by show _ + 5 ≤ _; omega)) ?_
  refine Seq.p rfl Ev.eqStr ?_
  refine Seq.p rfl Ev.assign ?_
  refine Seq.nil ?_
  refine JC.seq ?_
  refine JC.rs ?_
  refine Seq.p rfl Ev.assign ?_
  refine Seq.nil ?_
  refine JC.blk ?_
  refine JC.loop (α := Nat × List Int) (I := fun s e1 H1 => Has [6, 13, 14, 15, 16, 17, 18, 19, 20, 21] [(6, .int .i64 (s.1 : Int))] _ e1 ∧ H1 = [bytesC vi s.2] ∧ s.1 ≤ l.length + 5 ∧ s.2.length = l.length + 5) (μ := fun s => l.length + 5 - s.1) (0, l ++ fiveL) ⟨Has.mk Off.refl (allLook_cons (by repeat (first | exact Look.here | apply Look.there (hne := rfl) | exact Look.const | apply Look.mix rfl | exact Look.arg0 | apply Look.args | exact Look.func)) allLook_nil), rfl, by omega, hlf⟩ ?_
  rintro ⟨i, l'⟩ _ _ ⟨⟨u, rfl⟩, rfl, hi, hl'⟩; dsimp only [setL]; dsimp only at hi hl'
  refine JC.seq ?_
  refine JC.rs ?_
  refine Seq.p rfl Ev.move ?_
  refine Seq.p rfl Ev.move ?_
  refine Seq.p rfl (Ev.lenSl sl.sl_uint8 (hr := RAt.own (enc := byteEnc) (xs := l'))) ?_
  refine Seq.p rfl Ev.lt ?_
  refine Seq.nil ?_
  first | refine JC.c (ht := fun c16 => ?_) (hf := fun c16 => ?_) | refine JC.cb (ht := fun c16 => ?_) (hf := fun c16 => ?_)
  · -- then_t16
    have hi2 : i < l'.length := by omega
    refine JC.skip ?_
    refine JC.seq ?_
    refine JC.blk ?_
    refine JC.reg ?_
    refine Seq.p rfl Ev.move ?_
    refine Seq.p rfl Ev.move ?_
    refine Seq.p rfl (Ev.iaN sl.sl_uint8 (hr := RAt.own (enc := byteEnc) (xs := l'))) ?_
    refine Seq.stOwn (enc := byteEnc) (xs := l') (q := i) 238 sz.uint8 (by decide) (h1 := byteOne) (k := ?_)
    refine Seq.nil ?_
    refine JC.reg ?_
    refine Seq.p rfl Ev.move ?_
    refine Seq.p rfl (by first | exact Ev.inc | exact Ev.add) ?_
    refine Seq.p rfl Ev.assign ?_
    refine Seq.nil ?_
    refine ⟨(i + 1, l'.set i 238), _, Part.refl _, ⟨Has.mk (by repeat (first | refine Off.upd ?_ rfl | exact Off.mix | refine Off.mix2 ?_ rfl | exact Off.refl)) (allLook_cons (by repeat (first | exact Look.here | apply Look.there (hne := rfl) | exact Look.const | apply Look.mix rfl | exact Look.arg0 | apply Look.args | exact Look.func)) allLook_nil), rfl, by show i + 1 ≤ l.length + 5; omega, by show (l'.set i 238).length = _; rw [List.length_set]; exact hl'⟩, by show l.length + 5 - (i + 1) < l.length + 5 - i; omega⟩
  · -- else_t16
    refine JC.exit ?_ -- 0
    refine JC.rs ?_
    refine Seq.p rfl Ev.move ?_
    refine Seq.p rfl Ev.assign ?_
    refine Seq.nil ?_
    refine JC.ret ?_
    -- return 0
    show retQ _ _ _ _ _ _ _ _
    refine ret1 (hp := Part.refl _) (hpost := ?_)
    refine ⟨_, rfl, ?_, l', rfl⟩
    rw [strOf_append, show strOf fiveL = ⟨#[1, 2, 3, 4, 5]⟩ from rfl]
    simp
theorem decF_cases (l : List Int) : (decF l).1 = zeroB ∨ (decF l).1 = bookOf l := by
  unfold decF
  split
  · exact .inl rfl
  · split
    · exact .inl rfl
    · split
      · exact .inl rfl
      · split
        · exact .inl rfl
        · split
          · exact .inl rfl
          · split
            · exact .inl rfl
            · exact .inr rfl
theorem decF_len {l : List Int} (hB : isBytes l) : (decF l).1.buys.length ≤ 65535 ∧ (decF l).1.sells.length ≤ 65535 := by
  rcases decF_cases l with h | h
  · rw [h]; exact ⟨Nat.zero_le _, Nat.zero_le _⟩
  · rw [h]
    have e1 : (bookOf l).buys.length = nBuys l := ordersAt_length _ _ _
    have e2 : (bookOf l).sells.length = nSells l := ordersAt_length _ _ _
    rw [e1, e2]
    exact ⟨nBuys_le hB, nSells_le hB⟩
set_option maxHeartbeats 2000000 in
set_option maxRecDepth 100000 in
theorem lawDecodes {w : World} {v : Value} {l : List Int} (hr : RSl byteEnc 1 w [] v l) (hB : isBytes l) (hl : l.length + 5 ≤ 140737488355328) :
    Spec Go.Proofs.Try.prog 4 #[v] w [] (fun u _ => u = .bool true) := by
  have hsm := hr.small
  refine Spec.enter (fn := Go.Proofs.Try.f4) (n := 45) [v] Go.Proofs.Try.func4 (by kernel_rfl) rfl Go.Proofs.Try.ntmps4 Go.Proofs.Try.results4 rfl (Own.nil _) ?_
  refine JC.rs ?_
  refine Seq.p rfl Ev.assign ?_
  refine Seq.nil ?_
  refine JC.rs ?_
  refine Seq.p rfl Ev.move ?_
  refine Seq.call rfl (fun w hw => lawHand (hr.up hw) hl) (F := _) (by exact List.Perm.refl _) ?_
  rintro _ _ ⟨A11, c11, rfl, rfl⟩
  simp only [List.cons_append, List.nil_append]
  have hlf : (l ++ fiveL).length = l.length + 5 := by simp [fiveL]
  refine Seq.p rfl Ev.assign ?_
  refine Seq.nil ?_
  refine JC.rs ?_
  refine Seq.p rfl Ev.move ?_
  refine Seq.p rfl Ev.move ?_
  refine Seq.p rfl (Ev.lenSl sl.sl_uint8 (hr := hr.r)) ?_
  refine Seq.p rfl (Ev.cut sl.sl_uint8 (hr := RAt.own (enc := byteEnc) (xs := l ++ fiveL)) (l := 0) (h := l.length) (hlo := rfl) (hhi := ⟨_, (by repeat (first | exact Look.here | apply Look.there (hne := rfl) | exact Look.const | apply Look.mix rfl | exact Look.arg0 | apply Look.args | exact Look.func))⟩)) ?_
  refine Seq.call rfl (fun w hw => snapDecode (by have h := (RAt.up (RAt.own (enc := byteEnc) (xs := l ++ fiveL)) hw).head (k := l.length) (by omega); rwa [List.take_left] at h) hB (by omega)) (F := _) (by exact List.Perm.refl _) ?_
  generalize hd : decF l = d
  obtain ⟨db, da, de⟩ := d
  rintro _ _ ⟨B1, k1, B2, k2, rfl, rfl⟩
  simp only [List.cons_append, List.nil_append]
  refine Seq.p rfl Ev.move ?_
  refine Seq.p rfl Ev.extract ?_
  refine Seq.p rfl Ev.extract ?_
  refine Seq.p rfl Ev.extract ?_
  refine Seq.alloc (cs := [_, _, _, _, _, _]) (hz := z.api_Book) (k := ?_); intro b4
  refine Seq.storeN [_, _, _, _, _, _] sz.api_Book (k := ?_)
  refine Seq.p rfl Ev.assign ?_
  refine Seq.p rfl Ev.assign ?_
  refine Seq.nil ?_
  refine JC.rs ?_
  refine Seq.p rfl Ev.move ?_
  refine Seq.call rfl (fun w hw => hd ▸ refDecode (hr.up hw) hB (by omega)) (F := _) (by exact List.Perm.refl _) ?_
  rintro _ _ ⟨D1, m1, D2, m2, rfl, rfl⟩
  simp only [List.cons_append, List.nil_append]
  refine Seq.p rfl Ev.move ?_
  refine Seq.p rfl Ev.extract ?_
  refine Seq.p rfl Ev.extract ?_
  refine Seq.p rfl Ev.extract ?_
  refine Seq.alloc (cs := [_, _, _, _, _, _]) (hz := z.api_Book) (k := ?_); intro b7
  refine Seq.storeN [_, _, _, _, _, _] sz.api_Book (k := ?_)
  refine Seq.p rfl Ev.assign ?_
  refine Seq.p rfl Ev.assign ?_
  refine Seq.nil ?_
  refine JC.rs ?_
  refine Seq.p rfl Ev.move ?_
  refine Seq.p rfl Ev.move ?_
  refine Seq.p rfl Ev.eq ?_
  refine Seq.p rfl Ev.move ?_
  refine Seq.split (d := 30) (k := ?_)
  rintro (_|_) h30
  · try simp only [decide_eq_true_eq, decide_eq_false_iff_not] at h30
    simp at h30
  · try simp only [decide_eq_true_eq, decide_eq_false_iff_not] at h30
    refine Seq.gy rfl rfl rfl ?_
    refine Seq.p rfl Ev.move ?_
    refine Seq.gy rfl rfl rfl ?_
    refine Seq.p rfl Ev.move ?_
    refine Seq.gy rfl rfl rfl ?_
    refine Seq.p rfl Ev.eq ?_
    refine Seq.p rfl Ev.pickT ?_
    refine Seq.p rfl Ev.move ?_
    refine Seq.split (d := 35) (k := ?_)
    rintro (_|_) h35
    · try simp only [decide_eq_true_eq, decide_eq_false_iff_not] at h35
      simp at h35
    · try simp only [decide_eq_true_eq, decide_eq_false_iff_not] at h35
      refine Seq.gy rfl rfl rfl ?_
      refine Seq.p rfl Ev.move ?_
      refine Seq.gy rfl rfl rfl ?_
      refine Seq.p rfl Ev.move ?_
      refine Seq.gy rfl rfl rfl ?_
      have hln := decF_len hB
      rw [hd] at hln
      dsimp only at hln
      refine Seq.callAt (hs := fun w hw ho => lawLeft ((hr.at_ hw).part (by repeat (first | exact Part.refl _ | exact Part.nil _ | apply Part.here | apply Part.skip))) hl ho) (hH := At.s (At.s (At.s (At.s (At.s (At.s At.z)))))) (k := ?_)
      rintro v38 _ ⟨rfl, l', rfl⟩
      refine Seq.p rfl Ev.pickT ?_
      refine Seq.p rfl Ev.move ?_
      refine Seq.split (d := 40) (k := ?_)
      rintro (_|_) h40
      · try simp only [decide_eq_true_eq, decide_eq_false_iff_not] at h40
        simp at h40
      · try simp only [decide_eq_true_eq, decide_eq_false_iff_not] at h40
        refine Seq.gy rfl rfl rfl ?_
        refine Seq.p rfl (Ev.ldBA ag.api_Book) ?_
        refine Seq.gy rfl rfl rfl ?_
        refine Seq.p rfl (Ev.ldBA ag.api_Book) ?_
        refine Seq.gy rfl rfl rfl ?_
        refine Seq.callP rfl (fun w hw => refSame (a := db) (b := db) (RAt.up (RAt.own (enc := Resting.enc) (xs := db.buys)) hw) (RAt.up (RAt.own (enc := Resting.enc) (xs := db.sells)) hw) (RAt.up (RAt.own (enc := Resting.enc) (xs := db.buys)) hw) (RAt.up (RAt.own (enc := Resting.enc) (xs := db.sells)) hw)) ?_
        refine Seq.p rfl Ev.pickT ?_
        refine Seq.p rfl Ev.assign ?_
        refine Seq.nil ?_
        refine JC.ret ?_
        -- return 0
        show retQ _ _ _ _ _ _ _ _
        refine ret1 (hp := Part.nil _) (hpost := ?_)
        simp
theorem open_bytes {H : Type} {enc : TypeId × Value → H} {W : World} {v : Value} {d : DataW H} {p : List MemPlace} (h : DataW.Trod enc Go.Proofs.Try.prog W 0 (fun _ => true) true 36 v d p) (hl : Light Go.Proofs.Try.prog 36 d) (hv : ∃ A n c, v = .slice A n c) :
    ∃ l : List Int, RSl byteEnc 1 W [] v l ∧ isBytes l ∧ l.length ≤ reachBytes := by
  obtain ⟨A, n, c, rfl⟩ := hv
  obtain ⟨fuel, hf⟩ := h
  obtain ⟨A2, c2, xs, h1, r1, l1, w1⟩ := open_rows (en := byteEnc) (dec := fun cs => numAt cs 0) Go.Proofs.Try.underlying36 so.uint8 (by rw [byt.uint8]; decide) (fun cs h => by
    obtain ⟨c0, r0, rfl, h0, h⟩ := areSorts_cons h
    obtain rfl := areSorts_nil h
    obtain ⟨n0, rfl⟩ := isSort_int h0
    rfl) hf hl
  rw [byt.uint8, Nat.mul_one] at l1
  have e : (Value.slice A n c).cells.toList = [.slice A n c] := rfl
  rw [e] at h1
  rw [← (List.cons.inj h1).1] at r1
  refine ⟨xs, r1, ?_, l1⟩
  intro x hx
  have := (w1 x hx).2
  simp only [byteEnc, List.all_cons, List.all_nil, Bool.and_true] at this
  have h2 : (Lit.int .u8 x).wf = true := this
  unfold Lit.wf at h2
  rw [Bool.and_eq_true] at h2
  exact ⟨of_decide_eq_true h2.1, of_decide_eq_true h2.2⟩
end Go.Rx
namespace Go.Proofs.Ytkmakbkchnibkaa
open Go Go.RowKit Go.WideShapes Go.ChangeShapes Go.ChangeAt Go.Rx
set_option linter.unusedVariables false
set_option maxRecDepth 100000 in
theorem snapshotDecodes_lifted (os : Os) (started : os.Started) (H : Type) (enc : TypeId × Value → H) :
    ReturnsInHanded {} Try.checked os 4 .any (Rows.snapshotDecodesSpec.pre6 enc Try.prog Try.f4 Rows.snapshotDecodesRow.domain false) (Rows.snapshotDecodesSpec.post enc Try.prog Try.f4 false true false false) := by
  refine returnsInHanded_of_change_sized (C := Try.checked) Try.own started (by kernel_rfl) Try.func4
    (ChangeSpec.witness6 (enc := enc) (C := Try.checked) false ⟨#[], #[.slice none 0 0], []⟩ 8 (by kernel_rfl) (by kernel_rfl) (by kernel_rfl) (by kernel_rfl)) ?_
  intro W base args ds gs before hval0 hW hcnd hsz0 _
  have hsz : (DataW.weightsEach Try.prog (Try.f4.params.toList ++ Rows.snapshotDecodesSpec.plain.varTypes Try.prog) (ds ++ gs)).all (· ≤ reachBytes) = true := hsz0
  have hval : ∀ (j : Nat) t v, Try.f4.params[j]? = some t → args[j]? = some v → Value.okWide Try.prog W .any base t v := hval0
  have hW' := hW
  obtain ⟨p, q, hA0, hV, rfl, hfz, hnd⟩ := hW
  have hA : DataW.TrodAll enc Try.prog W 0 (fun _ => true) true Try.f4.params.toList args.toList ds p := hA0
  rw [Try.params4] at hA hval hsz
  obtain ⟨v0, vs0, d0, ds0, p0, q0, hargs, rfl, rfl, h0, r0⟩ := trodAll_cons hA
  obtain ⟨rfl, rfl, rfl⟩ := trodAll_nil r0
  obtain rfl : args = #[v0] := by cases args; simp_all
  obtain ⟨rfl, rfl⟩ := trodVars_none hV
  have k0 := h0
  have lt0 : ∀ x ∈ p0, x.block < W.heap.size := by obtain ⟨m, hm⟩ := k0; exact DataW.trod_lt m _ _ _ hm
  have hv0 := hval 0 36 v0 rfl rfl
  have hl0 : Light Try.prog 36 d0 := light_arg hsz (j := 0) rfl rfl
  obtain ⟨l, hr, hB, hl⟩ := open_bytes h0 hl0 (by obtain ⟨A, n, c, rfl⟩ := okWide_slice Go.Proofs.Try.underlying36 hv0; exact ⟨A, n, c, rfl⟩)
  have hl2 : l.length + 5 ≤ 140737488355328 := by have : l.length ≤ 140737488351232 := hl; omega
  clear hA0 hval0 hsz0 hsz
  refine (lawDecodes hr hB hl2).2.mono ?_
  rintro e W' ⟨_, H', rfl, hu, rfl⟩
  have bel := hu.below'
  exact ⟨_, rfl, _, _, _, [], _, [], hW', trodAll_mk1 (shut_bool Go.Proofs.Try.underlying4 _), (trodAll_cons_mk (Below.trod Try.laidOut (by kernel_rfl) (of_decide_eq_true (by kernel_rfl)) k0 bel lt0) trodAll_mk0), rfl, bel.frame _, fun h => by cases h⟩
theorem snapshotDecodes_holds : Rows.SnapshotDecodesSaid :=
  OpenClaim.holds_of_wide 4 Try.f4 rfl rfl rfl rfl rfl rfl rfl ⟨rfl, rfl, rfl, rfl, rfl⟩ rfl rfl rfl rfl rfl (by kernel_rfl) Try.func4 (by kernel_rfl)
    (of_decide_eq_true (by kernel_rfl)) (by unfold Func.isWrapper; first | (rw [if_pos (by decide +kernel)]; kernel_rfl) | (rw [if_neg (by decide +kernel)]; exact ⟨rfl, rfl⟩))
    (fun os started H enc _ => snapshotDecodes_lifted os started H enc)
#print axioms snapshotDecodes_holds
end Go.Proofs.Ytkmakbkchnibkaa
