/- A book out of bytes: the program's Decode. -/
import Derived.Test.YtkmakbkchnibkaaW3
namespace Go.Rx
open Go Go.RowKit
set_option linter.unusedVariables false
set_option linter.unusedSimpArgs false
theorem RSl.oneV {α : Type} [Inhabited α] {enc : α → List Value} {sz : Nat} {w : World} {C : List Chunk} {v : Value} {xs : List α} (h : RSl enc sz w C v xs) : cellsL v = [v] := by
  obtain ⟨A, c, rfl, _, _⟩ := h.shape
  rfl
theorem fillOne {α : Type} [Inhabited α] {enc : α → List Value} {sz : Nat} {w : World} {C : List Chunk} {v u : Value} {xs : List α} (h : RSl enc sz w C v xs) : fillL (fun x => [(0, 1)][x]?) [u] [(0, v)] = some [v] := by
  simp [fillL, h.oneV]
set_option maxHeartbeats 4000000 in
set_option maxRecDepth 100000 in
theorem snapDecode {w : World} {v : Value} {l : List Int} (hr : RSl byteEnc 1 w [] v l) (hB : isBytes l) (hl47 : l.length ≤ 140737488355328) :
    Spec Go.Proofs.Try.prog 12 #[v] w [] (DecPost (decF l)) := by
  have hsm := hr.small
  refine Spec.enter (fn := Go.Proofs.Try.f12) (n := 143) [v] Go.Proofs.Try.func12 (by kernel_rfl) rfl Go.Proofs.Try.ntmps12 Go.Proofs.Try.results12 rfl (Own.nil _) ?_
  refine JC.rs ?_
  refine Seq.alloc (cs := [_, _, _, _, _, _]) (hz := z.api_Book) (k := ?_); intro b2
  refine Seq.p rfl Ev.assign ?_
  refine Seq.p rfl Ev.assign ?_
  refine Seq.nil ?_
  refine JC.seq ?_
  refine JC.rs ?_
  refine Seq.p rfl Ev.move ?_
  refine Seq.nil ?_
  refine JC.blk ?_
  refine JC.loop (α := Nat) (I := fun i e1 H1 => Has [3, 4, 5, 13, 14, 15, 16, 17, 18, 19, 20, 21, 22, 23, 24, 25, 26, 27, 28, 29, 30, 31] [(13, .int .i64 (i : Int))] _ e1 ∧ H1 = _ ∧ i ≤ 8 ∧ ∀ j < i, magAt l j = 0) (μ := fun i => 8 - i) 0 ⟨Has.mk Off.refl (allLook_cons (by repeat (first | exact Look.here | apply Look.there (hne := rfl) | exact Look.const | apply Look.mix rfl | exact Look.arg0 | apply Look.args | exact Look.func)) allLook_nil), rfl, by omega, by omega⟩ ?_
  rintro i _ _ ⟨⟨u, rfl⟩, rfl, hi, hlt⟩; dsimp only [setL]
  refine JC.rs ?_
  refine Seq.p rfl Ev.lt ?_
  refine Seq.nil ?_
  refine JC.seq ?_
  first | refine JC.c (ht := fun c14 => ?_) (hf := fun c14 => ?_) | refine JC.cb (ht := fun c14 => ?_) (hf := fun c14 => ?_)
  · -- then_t14
    have hi2 : i < 8 := by omega
    refine JC.skip ?_
    refine JC.seq ?_
    refine JC.blk ?_
    refine JC.rs ?_
    refine Seq.p rfl Ev.move ?_
    refine Seq.p rfl Ev.assign ?_
    refine Seq.nil ?_
    refine JC.seq ?_
    refine JC.rs ?_
    refine Seq.p rfl Ev.move ?_
    refine Seq.p rfl Ev.move ?_
    refine Seq.p rfl (Ev.lenSl sl.sl_uint8 (hr := hr.r)) ?_
    refine Seq.p rfl Ev.eq ?_
    refine Seq.nil ?_
    first | refine JC.c (ht := fun c19 => ?_) (hf := fun c19 => ?_) | refine JC.cb (ht := fun c19 => ?_) (hf := fun c19 => ?_)
    · -- then_t19
      have hm : magAt l i = 20 := if_pos c19
      refine JC.re (fun w h => Upd.nilOwn (Upd.nilOwn h 33 7) 33 7) ?_
      refine JC.rs ?_
      refine Seq.p rfl (Ev.buildN [_, _, _, _, _, _] pl.api_Book z.api_Book) ?_
      refine Seq.p rfl Ev.move ?_
      refine Seq.storeN [_, _, _, _, _, _] sz.api_Book (k := ?_)
      refine Seq.p rfl Ev.assign ?_
      refine Seq.p rfl Ev.assign ?_
      refine Seq.nil ?_
      refine JC.ret ?_
      -- return 0
      show retQ _ _ _ _ _ _ _ _
      refine retB3 ag.api_Book (H' := [restC (.slice none 0 0) [], restC (.slice none 0 0) []]) (hp := Part.here (Part.here (Part.nil _))) (hpost := ?_)
      refine decZero ?_
      rw [decF_mag hi2 hlt (by rw [hm]; decide), hm]
    · -- else_t19
      have hil : i < l.length := by have := hpre hlt; omega
      refine JC.skip ?_
      refine JC.qs mixed (by kernel_rfl) ?_
      refine Qui.p rfl Ev.move ?_
      refine Qui.p rfl Ev.move ?_
      refine Qui.p rfl (Ev.iaN sl.sl_uint8 (hr := hr.r)) ?_
      refine Qui.p rfl (Ev.ldE1 sc.uint8 (hr := hr.r)) ?_
      refine Qui.p rfl Ev.move ?_
      refine Qui.p rfl (Ev.indexStr st.string (i := (i : Int)) (hi := ⟨by omega, by show (i : Int) < 8; omega⟩)) ?_
      rw [Int.toNat_natCast, magB i hi2]
      refine Qui.p rfl Ev.ne ?_
      refine Qui.nil ?_
      first | refine JC.c (ht := fun c28 => ?_) (hf := fun c28 => ?_) | refine JC.cb (ht := fun c28 => ?_) (hf := fun c28 => ?_)
      · -- then_t28
        have hm : magAt l i = 22 := by rw [magAt, if_neg c19, if_pos c28]
        refine JC.re (fun w h => Upd.nilOwn (Upd.nilOwn h 33 7) 33 7) ?_
        refine JC.rs ?_
        refine Seq.p rfl (Ev.buildN [_, _, _, _, _, _] pl.api_Book z.api_Book) ?_
        refine Seq.p rfl Ev.move ?_
        refine Seq.storeN [_, _, _, _, _, _] sz.api_Book (k := ?_)
        refine Seq.p rfl Ev.assign ?_
        refine Seq.p rfl Ev.assign ?_
        refine Seq.nil ?_
        refine JC.ret ?_
        -- return 1
        show retQ _ _ _ _ _ _ _ _
        refine retB3 ag.api_Book (H' := [restC (.slice none 0 0) [], restC (.slice none 0 0) []]) (hp := Part.here (Part.here (Part.nil _))) (hpost := ?_)
        refine decZero ?_
        rw [decF_mag hi2 hlt (by rw [hm]; decide), hm]
      · -- else_t28
        refine JC.skip ?_
        refine JC.reg ?_
        refine Seq.p rfl (by first | exact Ev.inc | exact Ev.add) ?_
        refine Seq.p rfl Ev.move ?_
        refine Seq.nil ?_
        refine ⟨i + 1, _, Part.refl _, ⟨Has.mk (by repeat (first | refine Off.upd ?_ rfl | exact Off.mix | refine Off.mix2 ?_ rfl | exact Off.refl)) (allLook_cons (by repeat (first | exact Look.here | apply Look.there (hne := rfl) | exact Look.const | apply Look.mix rfl | exact Look.arg0 | apply Look.args | exact Look.func)) allLook_nil), rfl, by omega, ?_⟩, by omega⟩
        intro j hj
        by_cases h : j = i
        · rw [h, magAt, if_neg c19, if_neg c28]
        · exact hlt j (by omega)
  · -- else_t14
    obtain rfl : i = 8 := by omega
    have hD := decF_rest hlt
    refine JC.exit ?_ -- 0
    refine JC.seq ?_
    refine JC.rs ?_
    refine Seq.p rfl Ev.move ?_
    refine Seq.p rfl (Ev.lenSl sl.sl_uint8 (hr := hr.r)) ?_
    refine Seq.p rfl Ev.lt ?_
    refine Seq.nil ?_
    first | refine JC.c (ht := fun c34 => ?_) (hf := fun c34 => ?_) | refine JC.cb (ht := fun c34 => ?_) (hf := fun c34 => ?_)
    · -- then_t34
      rw [if_pos c34] at hD
      refine JC.re (fun w h => Upd.nilOwn (Upd.nilOwn h 33 7) 33 7) ?_
      refine JC.rs ?_
      refine Seq.p rfl (Ev.buildN [_, _, _, _, _, _] pl.api_Book z.api_Book) ?_
      refine Seq.p rfl Ev.move ?_
      refine Seq.p rfl (Ev.lenSl sl.sl_uint8 (hr := hr.r)) ?_
      refine Seq.storeN [_, _, _, _, _, _] sz.api_Book (k := ?_)
      refine Seq.p rfl Ev.assign ?_
      refine Seq.p rfl Ev.assign ?_
      refine Seq.nil ?_
      refine JC.ret ?_
      -- return 2
      show retQ _ _ _ _ _ _ _ _
      refine retB3 ag.api_Book (H' := [restC (.slice none 0 0) [], restC (.slice none 0 0) []]) (hp := Part.here (Part.here (Part.nil _))) (hpost := ?_)
      refine decZero ?_
      rw [hD]
    · -- else_t34
      rw [if_neg c34] at hD
      have hl31 : 31 ≤ l.length := by omega
      have hnb := nBuys_le hB
      have hns := nSells_le hB
      have g27 := le_range2 hB 27
      have g29 := le_range2 hB 29
      have g8 := le_range2 hB 8
      have b10 := hB.at (k := 10) (by omega)
      rw [← le_one (by omega)] at b10
      refine JC.skip ?_
      refine JC.rs ?_
      refine Seq.p rfl Ev.move ?_
      refine Seq.p rfl (Ev.cut sl.sl_uint8 (hr := hr.r) (l := 8) (h := l.length) (hlo := ⟨_, (by repeat (first | exact Look.here | apply Look.there (hne := rfl) | exact Look.const | apply Look.mix rfl | exact Look.arg0 | apply Look.args | exact Look.func))⟩) (hhi := rfl)) ?_
      have h8 : RSl byteEnc 1 w [] _ (l.drop 8) := hr.tail (k := 8) (by omega)
      generalize subSl v 8 l.length 1 = v8 at h8 ⊢
      refine Seq.p rfl (Ev.buildN [v8] pl.snapshot_reader z.snapshot_reader (hcs := fillOne h8)) ?_
      refine Seq.box (cs := [_]) (k := ?_); intro b41
      refine Seq.p rfl Ev.assign ?_
      refine Seq.nil ?_
      refine JC.rs ?_
      refine Seq.p rfl Ev.move ?_
      refine Seq.callAt (hs := fun w hw ho => snapNum (l := l.drop (8)) (k := 2) ((h8.at_ hw).part (by repeat (first | exact Part.refl _ | exact Part.nil _ | apply Part.here | apply Part.skip))) (hB.drop (8)) (by omega) (by rw [List.length_drop]; omega) ho) (hH := At.z) (k := ?_)
      rintro v43 _ ⟨rfl, rfl⟩
      have h10 : RSl byteEnc 1 w [] _ (l.drop (10)) := h8.next (k := 2) (by omega)
      generalize subSl v8 2 (l.drop (8)).length 1 = v10 at h10 ⊢
      refine Seq.p rfl (Ev.conv64 it.uint64 it.int (h := ⟨Int.le_trans (by decide) g8.1, Int.le_trans g8.2 (by decide)⟩)) ?_
      refine Seq.p rfl Ev.move ?_
      refine Seq.callAt (hs := fun w hw ho => snapNum (l := l.drop (10)) (k := 1) ((h10.at_ hw).part (by repeat (first | exact Part.refl _ | exact Part.nil _ | apply Part.here | apply Part.skip))) (hB.drop (10)) (by omega) (by rw [List.length_drop]; omega) ho) (hH := At.z) (k := ?_)
      rintro v46 _ ⟨rfl, rfl⟩
      have h11 : RSl byteEnc 1 w [] _ (l.drop (11)) := h10.next (k := 1) (by omega)
      generalize subSl v10 1 (l.drop (10)).length 1 = v11 at h11 ⊢
      refine Seq.p rfl (Ev.conv64 it.uint64 it.int (h := ⟨Int.le_trans (by decide) b10.1, Int.le_trans b10.2 (by decide)⟩)) ?_
      refine Seq.p rfl (Ev.buildN [_, _] pl.api_Config z.api_Config) ?_
      refine Seq.p rfl Ev.move ?_
      refine Seq.callAt (hs := fun w hw ho => snapNum (l := l.drop (11)) (k := 8) ((h11.at_ hw).part (by repeat (first | exact Part.refl _ | exact Part.nil _ | apply Part.here | apply Part.skip))) (hB.drop (11)) (by omega) (by rw [List.length_drop]; omega) ho) (hH := At.z) (k := ?_)
      rintro v50 _ ⟨rfl, rfl⟩
      have h19 : RSl byteEnc 1 w [] _ (l.drop (19)) := h11.next (k := 8) (by omega)
      generalize subSl v11 8 (l.drop (11)).length 1 = v19 at h19 ⊢
      refine Seq.p rfl Ev.move ?_
      refine Seq.callAt (hs := fun w hw ho => snapNum (l := l.drop (19)) (k := 8) ((h19.at_ hw).part (by repeat (first | exact Part.refl _ | exact Part.nil _ | apply Part.here | apply Part.skip))) (hB.drop (19)) (by omega) (by rw [List.length_drop]; omega) ho) (hH := At.z) (k := ?_)
      rintro v52 _ ⟨rfl, rfl⟩
      have h27 : RSl byteEnc 1 w [] _ (l.drop (27)) := h19.next (k := 8) (by omega)
      generalize subSl v19 8 (l.drop (19)).length 1 = v27 at h27 ⊢
      refine Seq.p rfl (Ev.buildN [_, _, _, _, _, _] pl.api_Book z.api_Book) ?_
      refine Seq.alloc (cs := [_, _, _, _, _, _]) (hz := z.api_Book) (k := ?_); intro b7
      refine Seq.storeN [_, _, _, _, _, _] sz.api_Book (k := ?_)
      refine Seq.nil ?_
      refine JC.rs ?_
      refine Seq.p rfl Ev.move ?_
      refine Seq.callAt (hs := fun w hw ho => snapNum (l := l.drop (27)) (k := 2) ((h27.at_ hw).part (by repeat (first | exact Part.refl _ | exact Part.nil _ | apply Part.here | apply Part.skip))) (hB.drop (27)) (by omega) (by rw [List.length_drop]; omega) ho) (hH := (At.s At.z)) (k := ?_)
      rintro v55 _ ⟨rfl, rfl⟩
      have h29 : RSl byteEnc 1 w [] _ (l.drop (29)) := h27.next (k := 2) (by omega)
      generalize subSl v27 2 (l.drop (27)).length 1 = v29 at h29 ⊢
      refine Seq.p rfl (Ev.conv64 it.uint64 it.int (h := ⟨Int.le_trans (by decide) g27.1, Int.le_trans g27.2 (by decide)⟩)) ?_
      rw [nBuys_eq hB]
      refine Seq.p rfl Ev.move ?_
      refine Seq.callAt (hs := fun w hw ho => snapNum (l := l.drop (29)) (k := 2) ((h29.at_ hw).part (by repeat (first | exact Part.refl _ | exact Part.nil _ | apply Part.here | apply Part.skip))) (hB.drop (29)) (by omega) (by rw [List.length_drop]; omega) ho) (hH := (At.s At.z)) (k := ?_)
      rintro v58 _ ⟨rfl, rfl⟩
      have h31 : RSl byteEnc 1 w [] _ (l.drop (31)) := h29.next (k := 2) (by omega)
      generalize subSl v29 2 (l.drop (29)).length 1 = v31 at h31 ⊢
      refine Seq.p rfl (Ev.conv64 it.uint64 it.int (h := ⟨Int.le_trans (by decide) g29.1, Int.le_trans g29.2 (by decide)⟩)) ?_
      rw [nSells_eq hB]
      refine Seq.p rfl Ev.assign ?_
      refine Seq.p rfl Ev.assign ?_
      refine Seq.nil ?_
      refine JC.rs ?_
      refine Seq.p rfl Ev.move ?_
      refine Seq.p rfl Ev.move ?_
      refine Seq.p rfl Ev.addN ?_
      refine Seq.p rfl (Ev.mulN (c := 29)) ?_
      refine Seq.p rfl (Ev.addN (m := 31)) ?_
      rw [show 31 + 29 * (nBuys l + nSells l) = endOf l from rfl]
      have hE : endOf l = 31 + 29 * (nBuys l + nSells l) := rfl
      refine Seq.p rfl Ev.assign ?_
      refine Seq.nil ?_
      refine JC.seq ?_
      refine JC.blk ?_
      refine JC.rs ?_
      refine Seq.p rfl Ev.move ?_
      refine Seq.p rfl (Ev.lenSl sl.sl_uint8 (hr := hr.r)) ?_
      refine Seq.p rfl Ev.move ?_
      refine Seq.p rfl (Ev.addN (c := 4)) ?_
      refine Seq.p rfl Ev.lt ?_
      refine Seq.p rfl Ev.assign ?_
      refine Seq.nil ?_
      first | refine JC.c (ht := fun c65 => ?_) (hf := fun c65 => ?_) | refine JC.cb (ht := fun c65 => ?_) (hf := fun c65 => ?_)
      · -- then_t65
        rw [if_pos (by omega)] at hD
        refine JC.re (fun w h => Upd.nilOwn (Upd.nilOwn h 33 7) 33 7) ?_
        refine JC.rs ?_
        refine Seq.p rfl (Ev.buildN [_, _, _, _, _, _] pl.api_Book z.api_Book) ?_
        refine Seq.p rfl Ev.move ?_
        refine Seq.p rfl (Ev.lenSl sl.sl_uint8 (hr := hr.r)) ?_
        refine Seq.storeN [_, _, _, _, _, _] sz.api_Book (k := ?_)
        refine Seq.p rfl Ev.assign ?_
        refine Seq.p rfl Ev.assign ?_
        refine Seq.nil ?_
        refine JC.ret ?_
        -- return 3
        show retQ _ _ _ _ _ _ _ _
        refine retB3 ag.api_Book (H' := [restC (.slice none 0 0) [], restC (.slice none 0 0) []]) (hp := Part.here (Part.here (Part.nil _))) (hpost := ?_)
        refine decZero ?_
        rw [hD]
      · -- else_t65
        rw [if_neg (by omega)] at hD
        refine JC.rs ?_
        refine Seq.p rfl Ev.move ?_
        refine Seq.p rfl (Ev.lenSl sl.sl_uint8 (hr := hr.r)) ?_
        refine Seq.p rfl Ev.move ?_
        refine Seq.p rfl (Ev.addN (c := 4)) ?_
        refine Seq.p rfl Ev.gt ?_
        refine Seq.p rfl Ev.assign ?_
        refine Seq.nil ?_
        first | refine JC.c (ht := fun c74 => ?_) (hf := fun c74 => ?_) | refine JC.cb (ht := fun c74 => ?_) (hf := fun c74 => ?_)
        · -- then_t74
          rw [if_pos (by omega)] at hD
          refine JC.re (fun w h => Upd.nilOwn (Upd.nilOwn h 33 7) 33 7) ?_
          refine JC.rs ?_
          refine Seq.p rfl (Ev.buildN [_, _, _, _, _, _] pl.api_Book z.api_Book) ?_
          refine Seq.p rfl Ev.move ?_
          refine Seq.p rfl (Ev.addN (c := 4)) ?_
          refine Seq.storeN [_, _, _, _, _, _] sz.api_Book (k := ?_)
          refine Seq.p rfl Ev.assign ?_
          refine Seq.p rfl Ev.assign ?_
          refine Seq.nil ?_
          refine JC.ret ?_
          -- return 4
          show retQ _ _ _ _ _ _ _ _
          refine retB3 ag.api_Book (H' := [restC (.slice none 0 0) [], restC (.slice none 0 0) []]) (hp := Part.here (Part.here (Part.nil _))) (hpost := ?_)
          refine decZero ?_
          rw [hD, show ((endOf l + 4 : Nat) : Int) = (endOf l : Int) + 4 by omega]
        · -- else_t74
          rw [if_neg (by omega)] at hD
          have hlen : l.length = endOf l + 4 := by omega
          refine JC.as mixed ?_
          refine Any.p 0 rfl (by kernel_rfl) (by kernel_rfl) (by kernel_rfl) rfl Ev.move ?_
          refine Any.p 1 rfl (by kernel_rfl) (by kernel_rfl) (by kernel_rfl) rfl Ev.move ?_
          refine Any.p 2 rfl (by kernel_rfl) (by kernel_rfl) (by kernel_rfl) rfl (Ev.cut sl.sl_uint8 (hr := hr.r) (l := endOf l) (h := l.length) (hlo := ⟨_, (by repeat (first | exact Look.here | apply Look.there (hne := rfl) | exact Look.const | apply Look.mix rfl | exact Look.arg0 | apply Look.args | exact Look.func))⟩) (hhi := rfl)) ?_
          have hen : RSl byteEnc 1 w [] _ (l.drop (endOf l)) := hr.tail (k := endOf l) (by omega)
          generalize subSl v (endOf l) l.length 1 = ven at hen ⊢
          refine Any.p 3 rfl (by kernel_rfl) (by kernel_rfl) (by kernel_rfl) rfl (Ev.buildN [ven] pl.snapshot_reader z.snapshot_reader (hcs := fillOne hen)) ?_
          refine Any.p 6 rfl (by kernel_rfl) (by kernel_rfl) (by kernel_rfl) rfl Ev.move ?_
          refine Any.p 7 rfl (by kernel_rfl) (by kernel_rfl) (by kernel_rfl) rfl Ev.move ?_
          refine Any.p 8 rfl (by kernel_rfl) (by kernel_rfl) (by kernel_rfl) rfl (Ev.cut sl.sl_uint8 (hr := hr.r) (l := 0) (h := endOf l) (hlo := rfl) (hhi := ⟨_, (by repeat (first | exact Look.here | apply Look.there (hne := rfl) | exact Look.const | apply Look.mix rfl | exact Look.arg0 | apply Look.args | exact Look.func))⟩)) ?_
          refine Any.one 4 rfl (by kernel_rfl) ?_
          refine Seq.box (cs := [_]) (k := ?_); intro b88
          refine Seq.nil ⟨(by repeat (first | exact Part.refl _ | exact Part.nil _ | apply Part.here | apply Part.skip)), ?_⟩
          refine Any.one 5 rfl (by kernel_rfl) ?_
          refine Seq.callAt (hs := fun w hw ho => snapNum (l := l.drop (endOf l)) (k := 4) ((hen.at_ hw).part (by repeat (first | exact Part.refl _ | exact Part.nil _ | apply Part.here | apply Part.skip))) (hB.drop (endOf l)) (by omega) (by rw [List.length_drop]; omega) ho) (hH := At.z) (k := ?_)
          rintro v89 _ ⟨rfl, rfl⟩
          have hem : RSl byteEnc 1 w [] _ (l.drop (endOf l + 4)) := hen.next (k := 4) (by omega)
          generalize subSl ven 4 (l.drop (endOf l)).length 1 = vem at hem ⊢
          refine Seq.nil ⟨(by repeat (first | exact Part.refl _ | exact Part.nil _ | apply Part.here | apply Part.skip)), ?_⟩
          refine Any.call 9 rfl (by kernel_rfl) (by kernel_rfl) (by kernel_rfl) rfl (fun w hw => wireSum ((hr.up hw).head (by omega))) ?_
          refine Any.p 10 rfl (by kernel_rfl) (by kernel_rfl) (by kernel_rfl) rfl (Ev.convU64W it.uint32 it.uint64) ?_
          refine Any.p 11 rfl (by kernel_rfl) (by kernel_rfl) (by kernel_rfl) rfl Ev.ne ?_
          refine Any.p 12 rfl (by kernel_rfl) (by kernel_rfl) (by kernel_rfl) rfl Ev.assign ?_
          refine Any.done (by kernel_rfl) ?_
          first | refine JC.c (ht := fun c83 => ?_) (hf := fun c83 => ?_) | refine JC.cb (ht := fun c83 => ?_) (hf := fun c83 => ?_)
          · -- then_t83
            rw [if_pos (show le l (endOf l) 4 ≠ _ from c83)] at hD
            refine JC.re (fun w h => Upd.nilOwn (Upd.nilOwn h 33 7) 33 7) ?_
            refine JC.rs ?_
            refine Seq.p rfl (Ev.buildN [_, _, _, _, _, _] pl.api_Book z.api_Book) ?_
            refine Seq.p rfl Ev.move ?_
            refine Seq.storeN [_, _, _, _, _, _] sz.api_Book (k := ?_)
            refine Seq.p rfl Ev.assign ?_
            refine Seq.p rfl Ev.assign ?_
            refine Seq.nil ?_
            refine JC.ret ?_
            -- return 5
            show retQ _ _ _ _ _ _ _ _
            refine retB3 ag.api_Book (H' := [restC (.slice none 0 0) [], restC (.slice none 0 0) []]) (hp := Part.here (Part.here (Part.nil _))) (hpost := ?_)
            refine decZero ?_
            rw [hD]
          · -- else_t83
            rw [if_neg (show ¬ le l (endOf l) 4 ≠ _ from c83)] at hD
            refine JC.skip ?_
            refine JC.seq ?_
            refine JC.rs ?_
            refine Seq.p rfl Ev.move ?_
            refine Seq.p rfl Ev.move ?_
            refine Seq.p rfl Ev.addN ?_
            refine Seq.p rfl Ev.move ?_
            refine Seq.nil ?_
            refine JC.blk ?_
            refine JC.part (H' := [.box b7 27 [.int .i64 (le l 8 2), .int .i64 (le l 10 1), .slice none 0 0, .slice none 0 0, .int .u64 (le l 11 8), .int .u64 (le l 19 8)], .box b41 53 [v31], .box b2 27 [.int .i64 0, .int .i64 0, .slice none 0 0, .slice none 0 0, .int .u64 0, .int .u64 0]]) (Part.skip (Part.here (Part.here (Part.here (Part.nil _))))) ?_
            refine JC.re (fun w h => Upd.nilOwn (Upd.nilOwn h 33 7) 33 7) ?_
            refine JC.loop (α := Nat × Value × Value × Value) (I := fun s e1 H1 => Has [11, 12, 101, 102, 103, 104, 105, 106, 107, 108, 109, 110, 111, 112, 113, 114, 115, 116, 117, 118, 119, 120, 121, 122, 123, 124, 125, 126, 127, 128, 129, 130, 131, 132, 133, 134, 135, 136, 137] [(101, .int .i64 (s.1 : Int))] _ e1 ∧ H1 = [restC s.2.2.2 (ordersAt l (31 + 29 * nBuys l) (s.1 - nBuys l)), restC s.2.2.1 (ordersAt l 31 (min s.1 (nBuys l))), .box b7 27 [.int .i64 (le l 8 2), .int .i64 (le l 10 1), s.2.2.1, s.2.2.2, .int .u64 (le l 11 8), .int .u64 (le l 19 8)], .box b41 53 [s.2.1], .box b2 27 [.int .i64 0, .int .i64 0, .slice none 0 0, .slice none 0 0, .int .u64 0, .int .u64 0]] ∧ s.1 ≤ nBuys l + nSells l ∧ RSl byteEnc 1 w [] s.2.1 (l.drop (31 + 29 * s.1)) ∧ (∃ A c, s.2.2.1 = .slice A (min s.1 (nBuys l)) c) ∧ ∃ A c, s.2.2.2 = .slice A (s.1 - nBuys l) c) (μ := fun s => nBuys l + nSells l - s.1) (0, v31, .slice none 0 0, .slice none 0 0) ⟨Has.mk Off.refl (allLook_cons (by repeat (first | exact Look.here | apply Look.there (hne := rfl) | exact Look.const | apply Look.mix rfl | exact Look.arg0 | apply Look.args | exact Look.func)) allLook_nil), by simp only [Nat.zero_sub, Nat.zero_min]; rfl, by omega, h31, ⟨none, 0, by simp⟩, ⟨none, 0, by simp⟩⟩ ?_
            rintro ⟨i, vr, vb, vs⟩ _ _ ⟨⟨u3, rfl⟩, rfl, hi3, hrq, hvb, hvs⟩; dsimp only [setL]; dsimp only at hi3 hrq hvb hvs
            refine JC.rs ?_
            refine Seq.p rfl Ev.lt ?_
            refine Seq.nil ?_
            refine JC.seq ?_
            first | refine JC.c (ht := fun c102 => ?_) (hf := fun c102 => ?_) | refine JC.cb (ht := fun c102 => ?_) (hf := fun c102 => ?_)
            · -- then_t102
              have hi4 : i < nBuys l + nSells l := by omega
              have hol1 := ordersAt_length l 31 (min i (nBuys l))
              have hol2 := ordersAt_length l (31 + 29 * nBuys l) (i - nBuys l)
              have hqe : 31 + 29 * i + 29 ≤ l.length := by omega
              generalize hq : 31 + 29 * i = q at hrq hqe
              have g1 := le_range4 hB (q + 8)
              have g2 := le_range4 hB (q + 13)
              have g3 := hB.at (k := q + 12) (by omega)
              rw [← le_one (by omega)] at g3
              refine JC.skip ?_
              refine JC.seq ?_
              refine JC.blk ?_
              refine JC.rs ?_
              refine Seq.p rfl Ev.move ?_
              refine Seq.p rfl Ev.assign ?_
              refine Seq.nil ?_
              refine JC.rs ?_
              refine Seq.p rfl Ev.move ?_
              refine Seq.callAt (hs := fun w hw ho => snapNum (l := l.drop (q)) (k := 8) ((hrq.at_ hw).part (by repeat (first | exact Part.refl _ | exact Part.nil _ | apply Part.here | apply Part.skip))) (hB.drop (q)) (by omega) (by rw [List.length_drop]; omega) ho) (hH := (At.s (At.s (At.s At.z)))) (k := ?_)
              rintro v105 _ ⟨rfl, rfl⟩
              have hq8 : RSl byteEnc 1 w [] _ (l.drop (q + 8)) := hrq.next (k := 8) (by omega)
              generalize subSl vr 8 (l.drop (q)).length 1 = vq8 at hq8 ⊢
              refine Seq.p rfl Ev.move ?_
              refine Seq.callAt (hs := fun w hw ho => snapNum (l := l.drop (q + 8)) (k := 4) ((hq8.at_ hw).part (by repeat (first | exact Part.refl _ | exact Part.nil _ | apply Part.here | apply Part.skip))) (hB.drop (q + 8)) (by omega) (by rw [List.length_drop]; omega) ho) (hH := (At.s (At.s (At.s At.z)))) (k := ?_)
              rintro v107 _ ⟨rfl, rfl⟩
              have hq12 : RSl byteEnc 1 w [] _ (l.drop (q + 12)) := hq8.next (k := 4) (by omega)
              generalize subSl vq8 4 (l.drop (q + 8)).length 1 = vq12 at hq12 ⊢
              refine Seq.p rfl (Ev.convU32 it.uint64 it.uint32 (h := g1)) ?_
              refine Seq.p rfl Ev.move ?_
              refine Seq.callAt (hs := fun w hw ho => snapNum (l := l.drop (q + 12)) (k := 1) ((hq12.at_ hw).part (by repeat (first | exact Part.refl _ | exact Part.nil _ | apply Part.here | apply Part.skip))) (hB.drop (q + 12)) (by omega) (by rw [List.length_drop]; omega) ho) (hH := (At.s (At.s (At.s At.z)))) (k := ?_)
              rintro v110 _ ⟨rfl, rfl⟩
              have hq13 : RSl byteEnc 1 w [] _ (l.drop (q + 13)) := hq12.next (k := 1) (by omega)
              generalize subSl vq12 1 (l.drop (q + 12)).length 1 = vq13 at hq13 ⊢
              refine Seq.p rfl (Ev.conv64 it.uint64 it.int (h := ⟨Int.le_trans (by decide) g3.1, Int.le_trans g3.2 (by decide)⟩)) ?_
              refine Seq.p rfl Ev.move ?_
              refine Seq.callAt (hs := fun w hw ho => snapNum (l := l.drop (q + 13)) (k := 4) ((hq13.at_ hw).part (by repeat (first | exact Part.refl _ | exact Part.nil _ | apply Part.here | apply Part.skip))) (hB.drop (q + 13)) (by omega) (by rw [List.length_drop]; omega) ho) (hH := (At.s (At.s (At.s At.z)))) (k := ?_)
              rintro v113 _ ⟨rfl, rfl⟩
              have hq17 : RSl byteEnc 1 w [] _ (l.drop (q + 17)) := hq13.next (k := 4) (by omega)
              generalize subSl vq13 4 (l.drop (q + 13)).length 1 = vq17 at hq17 ⊢
              refine Seq.p rfl (Ev.conv64 it.uint64 it.int (h := ⟨Int.le_trans (by decide) g2.1, Int.le_trans g2.2 (by decide)⟩)) ?_
              refine Seq.p rfl Ev.move ?_
              refine Seq.callAt (hs := fun w hw ho => snapNum (l := l.drop (q + 17)) (k := 4) ((hq17.at_ hw).part (by repeat (first | exact Part.refl _ | exact Part.nil _ | apply Part.here | apply Part.skip))) (hB.drop (q + 17)) (by omega) (by rw [List.length_drop]; omega) ho) (hH := (At.s (At.s (At.s At.z)))) (k := ?_)
              rintro v116 _ ⟨rfl, rfl⟩
              have hq21 : RSl byteEnc 1 w [] _ (l.drop (q + 21)) := hq17.next (k := 4) (by omega)
              generalize subSl vq17 4 (l.drop (q + 17)).length 1 = vq21 at hq21 ⊢
              refine Seq.p rfl Ev.move ?_
              refine Seq.callAt (hs := fun w hw ho => snapNum (l := l.drop (q + 21)) (k := 4) ((hq21.at_ hw).part (by repeat (first | exact Part.refl _ | exact Part.nil _ | apply Part.here | apply Part.skip))) (hB.drop (q + 21)) (by omega) (by rw [List.length_drop]; omega) ho) (hH := (At.s (At.s (At.s At.z)))) (k := ?_)
              rintro v118 _ ⟨rfl, rfl⟩
              have hq25 : RSl byteEnc 1 w [] _ (l.drop (q + 25)) := hq21.next (k := 4) (by omega)
              generalize subSl vq21 4 (l.drop (q + 21)).length 1 = vq25 at hq25 ⊢
              refine Seq.p rfl Ev.move ?_
              refine Seq.callAt (hs := fun w hw ho => snapNum (l := l.drop (q + 25)) (k := 4) ((hq25.at_ hw).part (by repeat (first | exact Part.refl _ | exact Part.nil _ | apply Part.here | apply Part.skip))) (hB.drop (q + 25)) (by omega) (by rw [List.length_drop]; omega) ho) (hH := (At.s (At.s (At.s At.z)))) (k := ?_)
              rintro v120 _ ⟨rfl, rfl⟩
              have hq29 : RSl byteEnc 1 w [] _ (l.drop (q + 29)) := hq25.next (k := 4) (by omega)
              generalize subSl vq25 4 (l.drop (q + 25)).length 1 = vq29 at hq29 ⊢
              refine Seq.p rfl (Ev.buildN [_, _, _, _, _, _, _] pl.api_Resting z.api_Resting) ?_
              refine Seq.alloc (cs := [_, _, _, _, _, _, _]) (hz := z.api_Resting) (k := ?_); intro b12
              refine Seq.storeN [_, _, _, _, _, _, _] sz.api_Resting (k := ?_)
              refine Seq.nil ?_
              refine JC.rs ?_
              refine Seq.p rfl Ev.move ?_
              refine Seq.p rfl Ev.move ?_
              refine Seq.p rfl Ev.lt ?_
              refine Seq.nil ?_
              first | refine JC.c (ht := fun c124 => ?_) (hf := fun c124 => ?_) | refine JC.cb (ht := fun c124 => ?_) (hf := fun c124 => ?_)
              · -- then_t124
                have hq29' := hq29
                have hib : i < nBuys l := by omega
                refine JC.reg ?_
                refine Seq.p rfl (Ev.faB fd.api_Book_1) ?_
                refine Seq.p rfl (Ev.ldB sc.sl_api_Resting) ?_
                refine Seq.p rfl (Ev.ldBA ag.api_Resting) ?_
                refine Seq.buildSlN [_, _, _, _, _, _, _] (hsl := sl.sl_api_Resting) (hz := z.api_Resting) (k := ?_); intro b128
                refine Seq.append (hsl := sl.sl_api_Resting) (he := el.api_Resting) (hsrc := (fun w' hw => Src.box (news := (orderAt l q).enc) sl.sl_api_Resting At.z hw rfl (fun q u hu => hu))) (k := ?_); intro A129 c129
                refine Seq.p rfl (Ev.faB fd.api_Book_1) ?_
                refine Seq.storeN [_, _, _, _, _, _] sz.sl_api_Resting (k := ?_)
                refine Seq.nil ?_
                refine JC.reg ?_
                refine Seq.p rfl (by first | exact Ev.inc | exact Ev.add) ?_
                refine Seq.p rfl Ev.move ?_
                refine Seq.nil ?_
                have hqn : q + 29 = 31 + 29 * (i + 1) := by omega
                rw [hqn] at hq29'
                first
                  | (refine ⟨(i + 1, vq29, .slice A129 ((ordersAt l 31 (min i (nBuys l))).length + 1) c129, vs), _, Part.skip (Part.skip (Part.refl _)), ⟨Has.mk (by repeat (first | refine Off.upd ?_ rfl | exact Off.mix | refine Off.mix2 ?_ rfl | exact Off.refl)) (allLook_cons (by repeat (first | exact Look.here | apply Look.there (hne := rfl) | exact Look.const | apply Look.mix rfl | exact Look.arg0 | apply Look.args | exact Look.func)) allLook_nil), ?_, by show i + 1 ≤ nBuys l + nSells l; omega, hq29', ⟨A129, c129, ?_⟩, ?_⟩, by show nBuys l + nSells l - (i + 1) < nBuys l + nSells l - i; omega⟩
                     · show _ = [restC vs (ordersAt l (31 + 29 * nBuys l) (i + 1 - nBuys l)), restC _ (ordersAt l 31 (min (i + 1) (nBuys l))), _, _, _]
                       rw [show i + 1 - nBuys l = i - nBuys l by omega, show min (i + 1) (nBuys l) = min i (nBuys l) + 1 by omega, ordersAt_snoc, show 31 + 29 * min i (nBuys l) = q by omega, ← restC_append]
                       rfl
                     · show _ = Value.slice A129 (min (i + 1) (nBuys l)) c129
                       rw [hol1, show min (i + 1) (nBuys l) = min i (nBuys l) + 1 by omega]
                     · rw [show (i + 1, vq29, Value.slice A129 ((ordersAt l 31 (min i (nBuys l))).length + 1) c129, vs).1 - nBuys l = i - nBuys l by show i + 1 - nBuys l = _; omega]; exact hvs)
                  | (refine ⟨(i + 1, vq29, vb, .slice A135 ((ordersAt l (31 + 29 * nBuys l) (i - nBuys l)).length + 1) c135), _, Part.skip (Part.skip (Part.refl _)), ⟨Has.mk (by repeat (first | refine Off.upd ?_ rfl | exact Off.mix | refine Off.mix2 ?_ rfl | exact Off.refl)) (allLook_cons (by repeat (first | exact Look.here | apply Look.there (hne := rfl) | exact Look.const | apply Look.mix rfl | exact Look.arg0 | apply Look.args | exact Look.func)) allLook_nil), ?_, by show i + 1 ≤ nBuys l + nSells l; omega, hq29', ?_, ⟨A135, c135, ?_⟩⟩, by show nBuys l + nSells l - (i + 1) < nBuys l + nSells l - i; omega⟩
                     · show _ = [restC _ (ordersAt l (31 + 29 * nBuys l) (i + 1 - nBuys l)), restC vb (ordersAt l 31 (min (i + 1) (nBuys l))), _, _, _]
                       rw [show i + 1 - nBuys l = i - nBuys l + 1 by omega, show min (i + 1) (nBuys l) = min i (nBuys l) by omega, ordersAt_snoc, show 31 + 29 * nBuys l + 29 * (i - nBuys l) = q by omega, ← restC_append]
                       rfl
                     · rw [show min (i + 1, vq29, vb, Value.slice A135 ((ordersAt l (31 + 29 * nBuys l) (i - nBuys l)).length + 1) c135).1 (nBuys l) = min i (nBuys l) by show min (i + 1) _ = _; omega]; exact hvb
                     · show _ = Value.slice A135 (i + 1 - nBuys l) c135
                       rw [hol2, show i + 1 - nBuys l = i - nBuys l + 1 by omega])
              · -- else_t124
                have hq29' := hq29
                have hib : nBuys l ≤ i := by omega
                refine JC.reg ?_
                refine Seq.p rfl (Ev.faB fd.api_Book_2) ?_
                refine Seq.p rfl (Ev.ldB sc.sl_api_Resting) ?_
                refine Seq.p rfl (Ev.ldBA ag.api_Resting) ?_
                refine Seq.buildSlN [_, _, _, _, _, _, _] (hsl := sl.sl_api_Resting) (hz := z.api_Resting) (k := ?_); intro b134
                refine Seq.append (hsl := sl.sl_api_Resting) (he := el.api_Resting) (hsrc := (fun w' hw => Src.box (news := (orderAt l q).enc) sl.sl_api_Resting At.z hw rfl (fun q u hu => hu))) (k := ?_); intro A135 c135
                refine Seq.p rfl (Ev.faB fd.api_Book_2) ?_
                refine Seq.storeN [_, _, _, _, _, _] sz.sl_api_Resting (k := ?_)
                refine Seq.nil ?_
                refine JC.reg ?_
                refine Seq.p rfl (by first | exact Ev.inc | exact Ev.add) ?_
                refine Seq.p rfl Ev.move ?_
                refine Seq.nil ?_
                have hqn : q + 29 = 31 + 29 * (i + 1) := by omega
                rw [hqn] at hq29'
                first
                  | (refine ⟨(i + 1, vq29, .slice A129 ((ordersAt l 31 (min i (nBuys l))).length + 1) c129, vs), _, Part.skip (Part.skip (Part.refl _)), ⟨Has.mk (by repeat (first | refine Off.upd ?_ rfl | exact Off.mix | refine Off.mix2 ?_ rfl | exact Off.refl)) (allLook_cons (by repeat (first | exact Look.here | apply Look.there (hne := rfl) | exact Look.const | apply Look.mix rfl | exact Look.arg0 | apply Look.args | exact Look.func)) allLook_nil), ?_, by show i + 1 ≤ nBuys l + nSells l; omega, hq29', ⟨A129, c129, ?_⟩, ?_⟩, by show nBuys l + nSells l - (i + 1) < nBuys l + nSells l - i; omega⟩
                     · show _ = [restC vs (ordersAt l (31 + 29 * nBuys l) (i + 1 - nBuys l)), restC _ (ordersAt l 31 (min (i + 1) (nBuys l))), _, _, _]
                       rw [show i + 1 - nBuys l = i - nBuys l by omega, show min (i + 1) (nBuys l) = min i (nBuys l) + 1 by omega, ordersAt_snoc, show 31 + 29 * min i (nBuys l) = q by omega, ← restC_append]
                       rfl
                     · show _ = Value.slice A129 (min (i + 1) (nBuys l)) c129
                       rw [hol1, show min (i + 1) (nBuys l) = min i (nBuys l) + 1 by omega]
                     · rw [show (i + 1, vq29, Value.slice A129 ((ordersAt l 31 (min i (nBuys l))).length + 1) c129, vs).1 - nBuys l = i - nBuys l by show i + 1 - nBuys l = _; omega]; exact hvs)
                  | (refine ⟨(i + 1, vq29, vb, .slice A135 ((ordersAt l (31 + 29 * nBuys l) (i - nBuys l)).length + 1) c135), _, Part.skip (Part.skip (Part.refl _)), ⟨Has.mk (by repeat (first | refine Off.upd ?_ rfl | exact Off.mix | refine Off.mix2 ?_ rfl | exact Off.refl)) (allLook_cons (by repeat (first | exact Look.here | apply Look.there (hne := rfl) | exact Look.const | apply Look.mix rfl | exact Look.arg0 | apply Look.args | exact Look.func)) allLook_nil), ?_, by show i + 1 ≤ nBuys l + nSells l; omega, hq29', ?_, ⟨A135, c135, ?_⟩⟩, by show nBuys l + nSells l - (i + 1) < nBuys l + nSells l - i; omega⟩
                     · show _ = [restC _ (ordersAt l (31 + 29 * nBuys l) (i + 1 - nBuys l)), restC vb (ordersAt l 31 (min (i + 1) (nBuys l))), _, _, _]
                       rw [show i + 1 - nBuys l = i - nBuys l + 1 by omega, show min (i + 1) (nBuys l) = min i (nBuys l) by omega, ordersAt_snoc, show 31 + 29 * nBuys l + 29 * (i - nBuys l) = q by omega, ← restC_append]
                       rfl
                     · rw [show min (i + 1, vq29, vb, Value.slice A135 ((ordersAt l (31 + 29 * nBuys l) (i - nBuys l)).length + 1) c135).1 (nBuys l) = min i (nBuys l) by show min (i + 1) _ = _; omega]; exact hvb
                     · show _ = Value.slice A135 (i + 1 - nBuys l) c135
                       rw [hol2, show i + 1 - nBuys l = i - nBuys l + 1 by omega])
            · -- else_t102
              obtain rfl : i = nBuys l + nSells l := by omega
              have e1 : min (nBuys l + nSells l) (nBuys l) = nBuys l := by omega
              have e2 : nBuys l + nSells l - nBuys l = nSells l := by omega
              rw [e1] at hvb
              rw [e2] at hvs
              rw [e1, e2]
              obtain ⟨A1, c1, rfl⟩ := hvb
              obtain ⟨A2, c2, rfl⟩ := hvs
              refine JC.exit ?_ -- 3
              refine JC.seq ?_
              refine JC.rs ?_
              refine Seq.p rfl (Ev.ldBA ag.api_Book) ?_
              refine Seq.callP rfl (fun w hw => rulesValid (b := bookOf l) (RAt.up (RAt.own (enc := Resting.enc) (xs := ordersAt l 31 (nBuys l)) (hs := by rw [ordersAt_length]; omega)) hw) (RAt.up (RAt.own (enc := Resting.enc) (xs := ordersAt l (31 + 29 * nBuys l) (nSells l)) (hs := by rw [ordersAt_length]; omega)) hw) (wf_book hB)) ?_
              refine Seq.p rfl Ev.ne ?_
              refine Seq.nil ?_
              first | refine JC.c (ht := fun c140 => ?_) (hf := fun c140 => ?_) | refine JC.cb (ht := fun c140 => ?_) (hf := fun c140 => ?_)
              · -- then_t140
                rw [if_pos c140] at hD
                refine JC.re (fun w h => Upd.nilOwn (Upd.nilOwn h 33 7) 33 7) ?_
                refine JC.rs ?_
                refine Seq.p rfl (Ev.buildN [_, _, _, _, _, _] pl.api_Book z.api_Book) ?_
                refine Seq.storeN [_, _, _, _, _, _] sz.api_Book (k := ?_)
                refine Seq.p rfl Ev.assign ?_
                refine Seq.p rfl Ev.assign ?_
                refine Seq.nil ?_
                refine JC.ret ?_
                -- return 6
                show retQ _ _ _ _ _ _ _ _
                refine retB3 ag.api_Book (H' := [restC (.slice none 0 0) [], restC (.slice none 0 0) []]) (hp := Part.here (Part.here (Part.nil _))) (hpost := ?_)
                refine decZero ?_
                rw [hD]
              · -- else_t140
                rw [if_neg c140] at hD
                refine JC.skip ?_
                refine JC.rs ?_
                refine Seq.p rfl (Ev.ldBA ag.api_Book) ?_
                refine Seq.storeN [_, _, _, _, _, _] sz.api_Book (k := ?_)
                refine Seq.p rfl Ev.assign ?_
                refine Seq.p rfl Ev.assign ?_
                refine Seq.nil ?_
                refine JC.ret ?_
                -- return 7
                show retQ _ _ _ _ _ _ _ _
                refine retB3 ag.api_Book (H' := [restC _ (ordersAt l (31 + 29 * nBuys l) (nSells l)), restC _ (ordersAt l 31 (nBuys l))]) (hp := Part.here (Part.here (Part.nil _))) (hpost := ?_)
                exact decBook hD
end Go.Rx
