/- A part of the proof: the text A5. -/
import Derived.Test.YtkmakbkchnibkaaA4
namespace Go.Rx
open Go Go.RowKit
set_option linter.unusedVariables false
theorem flatMap_one (p : Resting → Bool) : True := trivial
set_option maxHeartbeats 2000000 in
set_option maxRecDepth 100000 in
theorem refCopy {w : World} {b : Book} {vb vs : Value} (hb : RSl Resting.enc 7 w [] vb b.buys) (hs : RSl Resting.enc 7 w [] vs b.sells) (lb : b.buys.length * 56 ≤ 140737488355328) (ls : b.sells.length * 56 ≤ 140737488355328) :
    Spec Go.Proofs.Try.prog 7 #[.agg (bookV b vb vs).toArray] w [] (fun u N => ∃ A1 c1 A2 c2, u = .agg (bookV b (.slice A1 b.buys.length c1) (.slice A2 b.sells.length c2)).toArray ∧
      N = [.own 33 7 (.slice A2 b.sells.length c2) b.sells.length (b.sells.flatMap Resting.enc), .own 33 7 (.slice A1 b.buys.length c1) b.buys.length (b.buys.flatMap Resting.enc)]) := by
  have hb1 := hb.small
  have hs1 := hs.small
  obtain ⟨Ab, cb, hvb, _, _⟩ := hb.shape
  obtain ⟨As, cs, hvs, _, _⟩ := hs.shape
  subst hvb hvs
  refine Spec.enter (fn := Go.Proofs.Try.f7) (n := 14) [.agg (bookV b (.slice Ab b.buys.length cb) (.slice As b.sells.length cs)).toArray] Go.Proofs.Try.func7 (by kernel_rfl) rfl Go.Proofs.Try.ntmps7 Go.Proofs.Try.results7 rfl (Own.nil _) ?_
  refine JC.rs ?_
  refine Seq.box (k := ?_); intro b1
  refine Seq.alloc (hz := z.api_Book) (k := ?_); intro b2
  refine Seq.nil ?_
  refine JC.rs ?_
  refine Seq.buildSl (cs := []) (hsl := sl.sl_api_Resting) (hz := z.api_Resting) (hcs := rfl) (k := ?_); intro b3
  refine Seq.re (fun w h => Upd.boxOwn h (n := 0) (size := 7) At.z rfl (by omega)) ?_
  refine Seq.p rfl (Ev.faB fd.api_Book_1) ?_
  refine Seq.p rfl (Ev.ldB sc.sl_api_Resting) ?_
  refine Seq.append (hsl := sl.sl_api_Resting) (he := el.api_Resting) (hsrc := fun w' hw => Src.rsl sl.sl_api_Resting (hb.up hw) (by omega) (by intro x u hu; simp [Resting.enc] at hu; rcases hu with h | h | h | h | h | h | h <;> (subst h; rfl))) (k := ?_); intro A6 c6
  rw [Nat.zero_add b.buys.length, List.nil_append]
  refine Seq.p rfl (Ev.faB fd.api_Book_1) ?_
  refine Seq.store sz.sl_api_Resting (k := ?_)
  refine Seq.nil ?_
  refine JC.rs ?_
  refine Seq.buildSl (cs := []) (hsl := sl.sl_api_Resting) (hz := z.api_Resting) (hcs := rfl) (k := ?_); intro b8
  refine Seq.re (fun w h => Upd.boxOwn h (n := 0) (size := 7) At.z rfl (by omega)) ?_
  refine Seq.p rfl (Ev.faB fd.api_Book_2) ?_
  refine Seq.p rfl (Ev.ldB sc.sl_api_Resting) ?_
  refine Seq.append (hsl := sl.sl_api_Resting) (he := el.api_Resting) (hsrc := fun w' hw => Src.rsl sl.sl_api_Resting (hs.up hw) (by omega) (by intro x u hu; simp [Resting.enc] at hu; rcases hu with h | h | h | h | h | h | h <;> (subst h; rfl))) (k := ?_); intro A11 c11
  rw [Nat.zero_add b.sells.length, List.nil_append]
  refine Seq.p rfl (Ev.faB fd.api_Book_2) ?_
  refine Seq.store sz.sl_api_Resting (k := ?_)
  refine Seq.nil ?_
  refine JC.rs ?_
  refine Seq.p rfl (Ev.ldBA ag.api_Book) ?_
  refine Seq.store sz.api_Book (k := ?_)
  refine Seq.nil ?_
  refine JC.ret ?_
  show retQ _ _ _ _ _ .ret _ _
  refine retB1 ag.api_Book (H' := [.own 33 7 (.slice A11 b.sells.length c11) b.sells.length (b.sells.flatMap Resting.enc), .own 33 7 (.slice A6 b.buys.length c6) b.buys.length (b.buys.flatMap Resting.enc)]) (hp := ?_) (hpost := ?_)
  rotate_left
  exact ⟨A6, c6, A11, c11, rfl, rfl⟩
  exact Part.here (Part.here (Part.nil _))
theorem getx (V : List Value) (i : Nat) (h : i < V.length) : V[0 + i * 1]? = some V[i]! := by
  rw [getElem!_pos V i h]
  simp [h]
set_option maxHeartbeats 2000000 in
set_option maxRecDepth 100000 in
theorem refAhead {w : World} {b : Book} {vb vs : Value} {id : Int} (hb : RSl Resting.enc 7 w [] vb b.buys) (hs : RSl Resting.enc 7 w [] vs b.sells) :
    Spec Go.Proofs.Try.prog 8 #[.agg (bookV b vb vs).toArray, .int .u64 id] w [] (fun u _ => u = aheadV (aheadOf b id)) := by
  have hb1 := hb.small
  have hs1 := hs.small
  obtain ⟨Ab, cb, hvb, _, _⟩ := hb.shape
  obtain ⟨As, cs, hvs, _, _⟩ := hs.shape
  subst hvb hvs
  refine Spec.enter (fn := Go.Proofs.Try.f8) (n := 67) [.agg (bookV b (.slice Ab b.buys.length cb) (.slice As b.sells.length cs)).toArray, .int .u64 id] Go.Proofs.Try.func8 (by kernel_rfl) rfl Go.Proofs.Try.ntmps8 Go.Proofs.Try.results8 rfl (Own.nil _) ?_
  refine JC.rs ?_
  refine Seq.box (k := ?_); intro b2
  refine Seq.p rfl Ev.assign ?_
  refine Seq.p rfl Ev.assign ?_
  refine Seq.nil ?_
  refine JC.rs ?_
  refine Seq.p rfl (Ev.faB fd.api_Book_1) ?_
  refine Seq.p rfl (Ev.ldB sc.sl_api_Resting) ?_
  refine Seq.p rfl (Ev.faB fd.api_Book_2) ?_
  refine Seq.p rfl (Ev.ldB sc.sl_api_Resting) ?_
  refine Seq.p rfl (Ev.buildArr ar.a2_sl_api_Resting z.a2_sl_api_Resting) ?_
  refine Seq.alloc (hz := z.a2_sl_api_Resting) (k := ?_); intro b6
  refine Seq.storeTo (cs' := [Value.slice Ab b.buys.length cb, .slice As b.sells.length cs]) sz.a2_sl_api_Resting (hfit := Nat.le_of_ble_eq_true rfl) (hcs := rfl) (k := ?_)
  refine Seq.nil ?_
  refine JC.seq ?_
  refine JC.rs ?_
  refine Seq.p rfl Ev.assign ?_
  refine Seq.nil ?_
  generalize hV : [Value.slice Ab b.buys.length cb, .slice As b.sells.length cs] = V
  generalize hL : [b.buys, b.sells] = L
  have hR : ∀ i, i < 2 → RSl Resting.enc 7 w [] V[i]! L[i]! := by
    intro i hi
    subst hV hL
    rcases i with _ | _ | i
    · exact hb
    · exact hs
    · omega
  have hVl : V.length = 2 := by subst hV; rfl
  refine JC.blk ?_
  refine JC.loop (α := Nat) (I := fun i e1 H1 => Has [4, 5, 7, 8, 9, 10, 16, 17, 18, 19, 20, 21, 22, 23, 24, 25, 26, 27, 28, 29, 30, 31, 32, 33, 34, 35, 36, 37, 38, 39, 40, 41, 42, 43, 44, 45, 46, 47, 48, 49, 50, 51, 52, 53, 54, 55, 56, 57, 58, 59, 60, 61, 62, 63, 64, 65, 66] [(7, .int .i64 (i : Int))] _ e1 ∧ H1 = _ ∧ i ≤ 2 ∧ ∀ j, j < i → aheadIn L[j]! id = none) (μ := fun i => 2 - i) 0 ⟨Has.mk Off.refl (allLook_cons (by repeat (first | exact Look.here | apply Look.there (hne := rfl) | exact Look.const | apply Look.mix rfl | exact Look.arg0 | apply Look.args | exact Look.func)) allLook_nil), rfl, by omega, by omega⟩ ?_
  rintro i _ _ ⟨⟨ui, rfl⟩, rfl, hi, hlt⟩; dsimp only [setL]
  refine JC.seq ?_
  refine JC.rs ?_
  refine Seq.p rfl Ev.move ?_
  refine Seq.p rfl Ev.lt ?_
  refine Seq.nil ?_
  refine JC.c (ht := fun hc => ?_) (hf := fun hc => ?_)
  · -- t17
    have hi2 : i < 2 := by omega
    have hg : V[0 + i * 1]? = some V[i]! := getx V i (by omega)
    have hsm := (hR i hi2).small
    refine JC.skip ?_
    refine JC.seq ?_
    refine JC.blk ?_
    refine JC.rs ?_
    refine Seq.p rfl Ev.assign ?_
    refine Seq.nil ?_
    refine JC.blk ?_
    refine JC.loop (α := Nat) (I := fun k e1 H1 => Has [4, 5, 8, 9, 10, 20, 21, 22, 23, 24, 25, 26, 27, 28, 29, 30, 31, 32, 33, 34, 35, 36, 37, 38, 39, 40, 41, 42, 43, 44, 45, 46, 47, 48, 49, 50, 51, 52, 53, 54, 55, 56, 57, 58, 59, 60, 61, 62, 63, 64, 65, 66] [(8, .int .i64 (k : Int))] _ e1 ∧ H1 = _ ∧ k ≤ L[i]!.length ∧ ∀ j, j < k → decide (L[i]![j]!.id = id) = false) (μ := fun k => L[i]!.length - k) 0 ⟨Has.mk Off.refl (allLook_cons (by repeat (first | exact Look.here | apply Look.there (hne := rfl) | exact Look.const | apply Look.mix rfl | exact Look.arg0 | apply Look.args | exact Look.func)) allLook_nil), rfl, by omega, by omega⟩ ?_
    rintro k _ _ ⟨⟨uk, rfl⟩, rfl, hk, hkt⟩; dsimp only [setL]
    refine JC.seq ?_
    refine JC.rs ?_
    refine Seq.p rfl Ev.move ?_
    refine Seq.p rfl Ev.move ?_
    refine Seq.p rfl (Ev.iaArrN ar.a2_sl_api_Resting) ?_
    refine Seq.p rfl (Ev.ldB sc.sl_api_Resting (hv := hg)) ?_
    refine Seq.p rfl (Ev.lenSl sl.sl_api_Resting (hr := (hR i hi2).r)) ?_
    refine Seq.p rfl Ev.lt ?_
    refine Seq.nil ?_
    refine JC.c (ht := fun hc => ?_) (hf := fun hc => ?_)
    · -- t25
      refine JC.skip ?_
      refine JC.seq ?_
      refine JC.blk ?_
      refine JC.seq ?_
      refine JC.rs ?_
      refine Seq.p rfl Ev.move ?_
      refine Seq.p rfl (Ev.iaArrN ar.a2_sl_api_Resting) ?_
      refine Seq.p rfl (Ev.ldB sc.sl_api_Resting (hv := hg)) ?_
      refine Seq.p rfl Ev.move ?_
      refine Seq.p rfl (Ev.iaN sl.sl_api_Resting (hr := (hR i hi2).r)) ?_
      refine Seq.p rfl (Ev.fa fd.api_Resting_0) ?_
      refine Seq.p rfl (Ev.ldE sc.uint64 (hr := (hR i hi2).r)) ?_
      refine Seq.p rfl Ev.move ?_
      refine Seq.p rfl Ev.ne ?_
      refine Seq.nil ?_
      refine JC.c (ht := fun hc => ?_) (hf := fun hc => ?_)
      · -- t36
        refine JC.exit ?_ -- 3
        refine JC.reg ?_
        refine Seq.p rfl Ev.move ?_
        refine Seq.p rfl (by first | exact Ev.inc | exact Ev.add) ?_
        refine Seq.p rfl Ev.assign ?_
        refine Seq.nil ?_
        refine ⟨k + 1, _, Part.refl _, ⟨Has.mk (by repeat (first | refine Off.upd ?_ rfl | exact Off.mix | refine Off.mix2 ?_ rfl | exact Off.refl)) (allLook_cons (by repeat (first | exact Look.here | apply Look.there (hne := rfl) | exact Look.const | apply Look.mix rfl | exact Look.arg0 | apply Look.args | exact Look.func)) allLook_nil), rfl, by omega, ?_⟩, by omega⟩
        intro j hj
        by_cases h : j = k
        · subst h; exact decide_eq_false hc
        · exact hkt j (by omega)
      · -- not t36
        have hid : L[i]![k]!.id = id := Classical.not_not.1 hc
        have hfi : L[i]!.findIdx? (fun o => decide (o.id = id)) = some k := by
          rw [List.findIdx?_eq_some_iff_getElem]
          refine ⟨by omega, by rw [getElem!_pos _ k (by omega)] at hid; simpa using hid, fun j hj => ?_⟩
          have := hkt j hj
          rw [getElem!_pos L[i]! j (by omega)] at this
          simpa using this
        refine JC.skip ?_
        refine JC.rs ?_
        refine Seq.p rfl Ev.assign ?_
        refine Seq.nil ?_
        refine JC.seq ?_
        refine JC.rs ?_
        refine Seq.p rfl Ev.assign ?_
        refine Seq.nil ?_
        refine JC.blk ?_
        refine JC.loop (α := Nat) (I := fun j e1 H1 => Has [9, 10, 37, 38, 39, 40, 41, 42, 43, 44, 45, 46, 47, 48, 49, 50, 51, 52, 53, 54, 55, 56, 57, 58, 59, 60, 61, 62, 63, 64, 65] [(9, .int .u64 (shown (L[i]!.take j) L[i]![k]!.price)), (10, .int .i64 (j : Int))] _ e1 ∧ H1 = _ ∧ j ≤ k) (μ := fun j => k - j) 0 ⟨Has.mk Off.refl (allLook_cons (by repeat (first | exact Look.here | apply Look.there (hne := rfl) | exact Look.const | apply Look.mix rfl | exact Look.arg0 | apply Look.args | exact Look.func)) (allLook_cons (by repeat (first | exact Look.here | apply Look.there (hne := rfl) | exact Look.const | apply Look.mix rfl | exact Look.arg0 | apply Look.args | exact Look.func)) allLook_nil)), rfl, by omega⟩ ?_
        rintro j _ _ ⟨⟨uj, rfl⟩, rfl, hj⟩; dsimp only [setL]
        refine JC.seq ?_
        refine JC.rs ?_
        refine Seq.p rfl Ev.move ?_
        refine Seq.p rfl Ev.move ?_
        refine Seq.p rfl Ev.lt ?_
        refine Seq.nil ?_
        refine JC.c (ht := fun hc => ?_) (hf := fun hc => ?_)
        · -- t39
          have hsn := shown_snoc L[i]! L[i]![k]!.price j (by omega)
          refine JC.skip ?_
          refine JC.seq ?_
          refine JC.blk ?_
          refine JC.qs mixed (by kernel_rfl) ?_
          refine Qui.p rfl Ev.move ?_
          refine Qui.p rfl (Ev.iaArrN ar.a2_sl_api_Resting) ?_
          refine Qui.p rfl (Ev.ldB sc.sl_api_Resting (hv := hg)) ?_
          refine Qui.p rfl Ev.move ?_
          refine Qui.p rfl (Ev.iaN sl.sl_api_Resting (hr := (hR i hi2).r)) ?_
          refine Qui.p rfl (Ev.fa fd.api_Resting_3) ?_
          refine Qui.p rfl (Ev.ldE sc.int (hr := (hR i hi2).r)) ?_
          refine Qui.p rfl Ev.move ?_
          refine Qui.p rfl (Ev.iaArrN ar.a2_sl_api_Resting) ?_
          refine Qui.p rfl (Ev.ldB sc.sl_api_Resting (hv := hg)) ?_
          refine Qui.p rfl Ev.move ?_
          refine Qui.p rfl (Ev.iaN sl.sl_api_Resting (hr := (hR i hi2).r)) ?_
          refine Qui.p rfl (Ev.fa fd.api_Resting_3) ?_
          refine Qui.p rfl (Ev.ldE sc.int (hr := (hR i hi2).r)) ?_
          refine Qui.p rfl Ev.eq ?_
          refine Qui.nil ?_
          refine JC.c (ht := fun hc => ?_) (hf := fun hc => ?_)
          · -- t56
            rw [if_pos hc] at hsn
            refine JC.reg ?_
            refine Seq.p rfl Ev.move ?_
            refine Seq.p rfl Ev.move ?_
            refine Seq.p rfl (Ev.iaArrN ar.a2_sl_api_Resting) ?_
            refine Seq.p rfl (Ev.ldB sc.sl_api_Resting (hv := hg)) ?_
            refine Seq.p rfl Ev.move ?_
            refine Seq.p rfl (Ev.iaN sl.sl_api_Resting (hr := (hR i hi2).r)) ?_
            refine Seq.p rfl (Ev.fa fd.api_Resting_4) ?_
            refine Seq.p rfl (Ev.ldE sc.uint64 (hr := (hR i hi2).r)) ?_
            refine Seq.p rfl Ev.addU ?_
            refine Seq.p rfl Ev.assign ?_
            refine Seq.nil ?_
            refine JC.reg ?_
            refine Seq.p rfl Ev.move ?_
            refine Seq.p rfl (by first | exact Ev.inc | exact Ev.add) ?_
            refine Seq.p rfl Ev.assign ?_
            refine Seq.nil ?_
            exact ⟨j + 1, _, Part.refl _, ⟨Has.mk (by repeat (first | refine Off.upd ?_ rfl | exact Off.mix | refine Off.mix2 ?_ rfl | exact Off.refl)) (allLook_cons (by rw [hsn]; repeat (first | exact Look.here | apply Look.there (hne := rfl) | apply Look.mix rfl)) (allLook_cons (by repeat (first | exact Look.here | apply Look.there (hne := rfl) | exact Look.const | apply Look.mix rfl | exact Look.arg0 | apply Look.args | exact Look.func)) allLook_nil)), rfl, by omega⟩, by omega⟩
          · -- not t56
            rw [if_neg hc] at hsn
            refine JC.skip ?_
            refine JC.reg ?_
            refine Seq.p rfl Ev.move ?_
            refine Seq.p rfl (by first | exact Ev.inc | exact Ev.add) ?_
            refine Seq.p rfl Ev.assign ?_
            refine Seq.nil ?_
            exact ⟨j + 1, _, Part.refl _, ⟨Has.mk (by repeat (first | refine Off.upd ?_ rfl | exact Off.mix | refine Off.mix2 ?_ rfl | exact Off.refl)) (allLook_cons (by rw [hsn]; repeat (first | exact Look.here | apply Look.there (hne := rfl) | apply Look.mix rfl)) (allLook_cons (by repeat (first | exact Look.here | apply Look.there (hne := rfl) | exact Look.const | apply Look.mix rfl | exact Look.arg0 | apply Look.args | exact Look.func)) allLook_nil)), rfl, by omega⟩, by omega⟩
        · -- not t39
          have : j = k := by omega
          subst this
          refine JC.exit ?_ -- 4
          refine JC.rs ?_
          refine Seq.p rfl Ev.move ?_
          refine Seq.p rfl Ev.assign ?_
          refine Seq.p rfl Ev.assign ?_
          refine Seq.nil ?_
          refine JC.ret ?_
          show retQ _ _ _ _ _ .ret _ _
          refine ret2 (hp := Part.nil _) (hpost := ?_)
          have hai : aheadIn L[i]! id = some (shown (L[i]!.take j) L[i]![j]!.price) := by unfold aheadIn; rw [hfi]; rfl
          have : aheadOf b id = some (shown (L[i]!.take j) L[i]![j]!.price) := by
            subst hL
            unfold aheadOf
            rcases i with _ | _ | i
            · have h3 : aheadIn b.buys id = _ := hai
              rw [h3]
            · have h2 : aheadIn b.buys id = none := hlt 0 (by omega)
              have h3 : aheadIn b.sells id = _ := hai
              rw [h2]; exact h3
            · omega
          rw [this]
          rfl
    · -- not t25
      have hk2 : k = L[i]!.length := by omega
      subst hk2
      have hfn : aheadIn L[i]! id = none := by
        unfold aheadIn
        have : L[i]!.findIdx? (fun o => decide (o.id = id)) = none := by
          rw [List.findIdx?_eq_none_iff]
          intro x hx
          obtain ⟨j, hj, rfl⟩ := List.getElem_of_mem hx
          have := hkt j hj
          rwa [getElem!_pos L[i]! j hj] at this
        rw [this]
        rfl
      refine JC.exit ?_ -- 2
      refine JC.reg ?_
      refine Seq.p rfl Ev.move ?_
      refine Seq.p rfl (by first | exact Ev.inc | exact Ev.add) ?_
      refine Seq.p rfl Ev.assign ?_
      refine Seq.nil ?_
      refine ⟨i + 1, _, Part.refl _, ⟨Has.mk (by repeat (first | refine Off.upd ?_ rfl | exact Off.mix | refine Off.mix2 ?_ rfl | exact Off.refl)) (allLook_cons (by repeat (first | exact Look.here | apply Look.there (hne := rfl) | exact Look.const | apply Look.mix rfl | exact Look.arg0 | apply Look.args | exact Look.func)) allLook_nil), rfl, by omega, ?_⟩, by omega⟩
      intro j hj
      by_cases h : j = i
      · subst h; exact hfn
      · exact hlt j (by omega)
  · -- not t17
    refine JC.exit ?_ -- 0
    refine JC.rs ?_
    refine Seq.p rfl Ev.assign ?_
    refine Seq.p rfl Ev.assign ?_
    refine Seq.nil ?_
    refine JC.ret ?_
    show retQ _ _ _ _ _ .ret _ _
    refine ret2 (hp := Part.nil _) (hpost := ?_)
    have : aheadOf b id = none := by
      subst hL
      have hi2 : i = 2 := by omega
      subst hi2
      have h2 : aheadIn b.buys id = none := hlt 0 (by omega)
      have h3 : aheadIn b.sells id = none := hlt 1 (by omega)
      unfold aheadOf
      rw [h2]
      exact h3
    rw [this]
    rfl
end Go.Rx
