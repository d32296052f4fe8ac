/- A book out of bytes: the document's Decode and the program's. -/
import Derived.Test.YtkmakbkchnibkaaW2
namespace Go.Rx
open Go Go.RowKit
set_option linter.unusedVariables false
set_option linter.unusedSimpArgs false
theorem magB : ∀ i < 8, bAt ⟨#[66, 82, 83, 66, 79, 79, 75, 49]⟩ i = magicL[i]! := by decide
theorem nBuys_eq {l : List Int} (hB : isBytes l) : le l 27 2 = ((nBuys l : Nat) : Int) := (Int.toNat_of_nonneg (le_range2 hB 27).1).symm
theorem nSells_eq {l : List Int} (hB : isBytes l) : le l 29 2 = ((nSells l : Nat) : Int) := (Int.toNat_of_nonneg (le_range2 hB 29).1).symm
theorem nBuys_le {l : List Int} (hB : isBytes l) : nBuys l ≤ 65535 := by have := le_range2 hB 27; unfold nBuys; omega
theorem nSells_le {l : List Int} (hB : isBytes l) : nSells l ≤ 65535 := by have := le_range2 hB 29; unfold nSells; omega
theorem RSl.next {w : World} {C : List Chunk} {v : Value} {l : List Int} {p k : Nat} (h : RSl byteEnc 1 w C v (l.drop p)) (hk : p + k ≤ l.length) : RSl byteEnc 1 w C (subSl v k (l.drop p).length 1) (l.drop (p + k)) := by
  have h2 := h.sub (lo := k) (hi := (l.drop p).length) (by rw [List.length_drop]; omega) (Nat.le_refl _)
  rw [List.take_of_length_le (by simp only [List.length_drop]; omega), List.drop_drop] at h2
  exact h2
theorem RSl.head {w : World} {C : List Chunk} {v : Value} {l : List Int} {k : Nat} (h : RSl byteEnc 1 w C v l) (hk : k ≤ l.length) : RSl byteEnc 1 w C (subSl v 0 k 1) (l.take k) := by
  have h2 := h.sub (lo := 0) (hi := k) (Nat.zero_le _) hk
  simpa using h2
theorem RSl.tail {w : World} {C : List Chunk} {v : Value} {l : List Int} {k : Nat} (h : RSl byteEnc 1 w C v l) (hk : k ≤ l.length) : RSl byteEnc 1 w C (subSl v k l.length 1) (l.drop k) := by
  have h2 := h.sub (lo := k) (hi := l.length) hk (Nat.le_refl _)
  rwa [List.take_of_length_le (by simp)] at h2
theorem decZero {l : List Int} {a e : Int} (h : decF l = (zeroB, a, e)) : DecPost (decF l) (.tuple #[.agg (bookV zeroB (.slice none 0 0) (.slice none 0 0)).toArray, .int .i64 a, .int .i64 e]) [restC (.slice none 0 0) [], restC (.slice none 0 0) []] := by
  rw [h]
  exact ⟨none, 0, none, 0, rfl, rfl⟩
theorem decBook {l : List Int} {A1 A2 : Option Addr} {c1 c2 : Nat} (h : decF l = (bookOf l, 0, 0)) : DecPost (decF l) (.tuple #[.agg (bookV (bookOf l) (.slice A1 (nBuys l) c1) (.slice A2 (nSells l) c2)).toArray, .int .i64 0, .int .i64 0]) [restC (.slice A2 (nSells l) c2) (ordersAt l (31 + 29 * nBuys l) (nSells l)), restC (.slice A1 (nBuys l) c1) (ordersAt l 31 (nBuys l))] := by
  rw [h]
  have e1 : (bookOf l).buys.length = nBuys l := ordersAt_length _ _ _
  have e2 : (bookOf l).sells.length = nSells l := ordersAt_length _ _ _
  refine ⟨A1, c1, A2, c2, ?_, ?_⟩
  · show _ = Value.tuple #[.agg (bookV (bookOf l) (.slice A1 (bookOf l).buys.length c1) (.slice A2 (bookOf l).sells.length c2)).toArray, _, _]
    rw [e1, e2]
  · show _ = [restC (.slice A2 (bookOf l).sells.length c2) _, restC (.slice A1 (bookOf l).buys.length c1) _]
    rw [e1, e2]
    rfl
theorem decF_rest {l : List Int} (hlt : ∀ j < 8, magAt l j = 0) : decF l =
    (if (l.length : Int) < 31 then ((zeroB, (l.length : Int), 20) : Book × Int × Int)
    else if (l.length : Int) < endOf l + 4 then (zeroB, (l.length : Int), 20)
    else if (l.length : Int) > endOf l + 4 then (zeroB, (endOf l : Int) + 4, 2)
    else if le l (endOf l) 4 ≠ sumF (l.take (endOf l)) % 18446744073709551616 then (zeroB, (endOf l : Int), 21)
    else if validE (bookOf l) ≠ 0 then (zeroB, 0, 120)
    else (bookOf l, 0, 0)) := by
  unfold decF
  rw [decF_none hlt]
theorem hpre {l : List Int} {i : Nat} (hlt : ∀ j < i, magAt l j = 0) : i ≤ l.length := by
  induction i with
  | zero => omega
  | succ i ih =>
    have h1 := ih (fun j hj => hlt j (by omega))
    have h2 := hlt i (by omega)
    by_cases h3 : (i : Int) = l.length
    · rw [magAt, if_pos h3] at h2; cases h2
    · omega
set_option maxHeartbeats 4000000 in
set_option maxRecDepth 100000 in
theorem refDecode {w : World} {v : Value} {l : List Int} (hr : RSl byteEnc 1 w [] v l) (hB : isBytes l) (hl47 : l.length ≤ 140737488355328) :
    Spec Go.Proofs.Try.prog 13 #[v] w [] (DecPost (decF l)) := by
  have hsm := hr.small
  refine Spec.enter (fn := Go.Proofs.Try.f13) (n := 102) [v] Go.Proofs.Try.func13 (by kernel_rfl) rfl Go.Proofs.Try.ntmps13 Go.Proofs.Try.results13 rfl (Own.nil _) ?_
  refine JC.rs ?_
  refine Seq.alloc (cs := [_, _, _, _, _, _]) (hz := z.api_Book) (k := ?_); intro b2
  refine Seq.p rfl Ev.assign ?_
  refine Seq.p rfl Ev.assign ?_
  refine Seq.nil ?_
  refine JC.seq ?_
  refine JC.rs ?_
  refine Seq.p rfl Ev.assign ?_
  refine Seq.nil ?_
  refine JC.blk ?_
  refine JC.loop (α := Nat) (I := fun i e1 H1 => Has [3, 4, 5, 10, 11, 12, 13, 14, 15, 16, 17, 18, 19, 20, 21, 22, 23, 24, 25, 26, 27, 28] [(5, .int .i64 (i : Int))] _ e1 ∧ H1 = _ ∧ i ≤ 8 ∧ ∀ j < i, magAt l j = 0) (μ := fun i => 8 - i) 0 ⟨Has.mk Off.refl (allLook_cons (by repeat (first | exact Look.here | apply Look.there (hne := rfl) | exact Look.const | apply Look.mix rfl | exact Look.arg0 | apply Look.args | exact Look.func)) allLook_nil), rfl, by omega, by omega⟩ ?_
  rintro i _ _ ⟨⟨u, rfl⟩, rfl, hi, hlt⟩; dsimp only [setL]
  refine JC.seq ?_
  refine JC.rs ?_
  refine Seq.p rfl Ev.move ?_
  refine Seq.p rfl Ev.lt ?_
  refine Seq.nil ?_
  first | refine JC.c (ht := fun c11 => ?_) (hf := fun c11 => ?_) | refine JC.cb (ht := fun c11 => ?_) (hf := fun c11 => ?_)
  · -- then_t11
    have hi2 : i < 8 := by omega
    refine JC.skip ?_
    refine JC.seq ?_
    refine JC.blk ?_
    refine JC.seq ?_
    refine JC.rs ?_
    refine Seq.p rfl Ev.move ?_
    refine Seq.p rfl Ev.move ?_
    refine Seq.p rfl (Ev.lenSl sl.sl_uint8 (hr := hr.r)) ?_
    refine Seq.p rfl Ev.eq ?_
    refine Seq.nil ?_
    first | refine JC.c (ht := fun c17 => ?_) (hf := fun c17 => ?_) | refine JC.cb (ht := fun c17 => ?_) (hf := fun c17 => ?_)
    · -- then_t17
      have hm : magAt l i = 20 := if_pos c17
      refine JC.re (fun w h => Upd.nilOwn (Upd.nilOwn h 33 7) 33 7) ?_
      refine JC.rs ?_
      refine Seq.p rfl (Ev.buildN [_, _, _, _, _, _] pl.api_Book z.api_Book) ?_
      refine Seq.p rfl Ev.move ?_
      refine Seq.storeN [_, _, _, _, _, _] sz.api_Book (k := ?_)
      refine Seq.p rfl Ev.assign ?_
      refine Seq.p rfl Ev.assign ?_
      refine Seq.nil ?_
      refine JC.ret ?_
      -- return 0
      show retQ _ _ _ _ _ _ _ _
      refine retB3 ag.api_Book (H' := [restC (.slice none 0 0) [], restC (.slice none 0 0) []]) (hp := Part.here (Part.here (Part.nil _))) (hpost := ?_)
      refine decZero ?_
      rw [decF_mag hi2 hlt (by rw [hm]; decide), hm]
    · -- else_t17
      have hil : i < l.length := by have := hpre hlt; omega
      refine JC.skip ?_
      refine JC.qs mixed (by kernel_rfl) ?_
      refine Qui.p rfl Ev.move ?_
      refine Qui.p rfl Ev.move ?_
      refine Qui.p rfl (Ev.iaN sl.sl_uint8 (hr := hr.r)) ?_
      refine Qui.p rfl (Ev.ldE1 sc.uint8 (hr := hr.r)) ?_
      refine Qui.p rfl Ev.move ?_
      refine Qui.p rfl (Ev.indexStr st.string (i := (i : Int)) (hi := ⟨by omega, by show (i : Int) < 8; omega⟩)) ?_
      rw [Int.toNat_natCast, magB i hi2]
      refine Qui.p rfl Ev.ne ?_
      refine Qui.nil ?_
      first | refine JC.c (ht := fun c26 => ?_) (hf := fun c26 => ?_) | refine JC.cb (ht := fun c26 => ?_) (hf := fun c26 => ?_)
      · -- then_t26
        have hm : magAt l i = 22 := by rw [magAt, if_neg c17, if_pos c26]
        refine JC.re (fun w h => Upd.nilOwn (Upd.nilOwn h 33 7) 33 7) ?_
        refine JC.rs ?_
        refine Seq.p rfl (Ev.buildN [_, _, _, _, _, _] pl.api_Book z.api_Book) ?_
        refine Seq.p rfl Ev.move ?_
        refine Seq.storeN [_, _, _, _, _, _] sz.api_Book (k := ?_)
        refine Seq.p rfl Ev.assign ?_
        refine Seq.p rfl Ev.assign ?_
        refine Seq.nil ?_
        refine JC.ret ?_
        -- return 1
        show retQ _ _ _ _ _ _ _ _
        refine retB3 ag.api_Book (H' := [restC (.slice none 0 0) [], restC (.slice none 0 0) []]) (hp := Part.here (Part.here (Part.nil _))) (hpost := ?_)
        refine decZero ?_
        rw [decF_mag hi2 hlt (by rw [hm]; decide), hm]
      · -- else_t26
        refine JC.skip ?_
        refine JC.reg ?_
        refine Seq.p rfl Ev.move ?_
        refine Seq.p rfl (by first | exact Ev.inc | exact Ev.add) ?_
        refine Seq.p rfl Ev.assign ?_
        refine Seq.nil ?_
        refine ⟨i + 1, _, Part.refl _, ⟨Has.mk (by repeat (first | refine Off.upd ?_ rfl | exact Off.mix | refine Off.mix2 ?_ rfl | exact Off.refl)) (allLook_cons (by repeat (first | exact Look.here | apply Look.there (hne := rfl) | exact Look.const | apply Look.mix rfl | exact Look.arg0 | apply Look.args | exact Look.func)) allLook_nil), rfl, by omega, ?_⟩, by omega⟩
        intro j hj
        by_cases h : j = i
        · rw [h, magAt, if_neg c17, if_neg c26]
        · exact hlt j (by omega)
  · -- else_t11
    obtain rfl : i = 8 := by omega
    have hD := decF_rest hlt
    refine JC.exit ?_ -- 0
    refine JC.seq ?_
    refine JC.rs ?_
    refine Seq.p rfl Ev.move ?_
    refine Seq.p rfl (Ev.lenSl sl.sl_uint8 (hr := hr.r)) ?_
    refine Seq.p rfl Ev.lt ?_
    refine Seq.nil ?_
    first | refine JC.c (ht := fun c31 => ?_) (hf := fun c31 => ?_) | refine JC.cb (ht := fun c31 => ?_) (hf := fun c31 => ?_)
    · -- then_t31
      rw [if_pos c31] at hD
      refine JC.re (fun w h => Upd.nilOwn (Upd.nilOwn h 33 7) 33 7) ?_
      refine JC.rs ?_
      refine Seq.p rfl (Ev.buildN [_, _, _, _, _, _] pl.api_Book z.api_Book) ?_
      refine Seq.p rfl Ev.move ?_
      refine Seq.p rfl (Ev.lenSl sl.sl_uint8 (hr := hr.r)) ?_
      refine Seq.storeN [_, _, _, _, _, _] sz.api_Book (k := ?_)
      refine Seq.p rfl Ev.assign ?_
      refine Seq.p rfl Ev.assign ?_
      refine Seq.nil ?_
      refine JC.ret ?_
      -- return 2
      show retQ _ _ _ _ _ _ _ _
      refine retB3 ag.api_Book (H' := [restC (.slice none 0 0) [], restC (.slice none 0 0) []]) (hp := Part.here (Part.here (Part.nil _))) (hpost := ?_)
      refine decZero ?_
      rw [hD]
    · -- else_t31
      rw [if_neg c31] at hD
      have hl31 : 31 ≤ l.length := by omega
      have hnb := nBuys_le hB
      have hns := nSells_le hB
      have g27 := le_range2 hB 27
      have g29 := le_range2 hB 29
      refine JC.skip ?_
      refine JC.rs ?_
      refine Seq.p rfl Ev.move ?_
      refine Seq.callP rfl (fun w hw => refGet (a := 27) (k := 2) (hr.up hw) hB (by omega) (by omega)) ?_
      refine Seq.p rfl (Ev.conv64 it.uint64 it.int (h := ⟨Int.le_trans (by decide) g27.1, Int.le_trans g27.2 (by decide)⟩)) ?_
      rw [nBuys_eq hB]
      refine Seq.p rfl Ev.move ?_
      refine Seq.callP rfl (fun w hw => refGet (a := 29) (k := 2) (hr.up hw) hB (by omega) (by omega)) ?_
      refine Seq.p rfl (Ev.conv64 it.uint64 it.int (h := ⟨Int.le_trans (by decide) g29.1, Int.le_trans g29.2 (by decide)⟩)) ?_
      rw [nSells_eq hB]
      refine Seq.p rfl Ev.assign ?_
      refine Seq.p rfl Ev.assign ?_
      refine Seq.nil ?_
      refine JC.rs ?_
      refine Seq.p rfl Ev.move ?_
      refine Seq.p rfl Ev.move ?_
      refine Seq.p rfl Ev.addN ?_
      refine Seq.p rfl (Ev.mulN (c := 29)) ?_
      refine Seq.p rfl (Ev.addN (m := 31)) ?_
      rw [show 31 + 29 * (nBuys l + nSells l) = endOf l from rfl]
      have hE : endOf l = 31 + 29 * (nBuys l + nSells l) := rfl
      refine Seq.p rfl Ev.assign ?_
      refine Seq.nil ?_
      refine JC.seq ?_
      refine JC.rs ?_
      refine Seq.p rfl Ev.move ?_
      refine Seq.p rfl (Ev.lenSl sl.sl_uint8 (hr := hr.r)) ?_
      refine Seq.p rfl Ev.move ?_
      refine Seq.p rfl (Ev.addN (c := 4)) ?_
      refine Seq.p rfl Ev.lt ?_
      refine Seq.nil ?_
      first | refine JC.c (ht := fun c50 => ?_) (hf := fun c50 => ?_) | refine JC.cb (ht := fun c50 => ?_) (hf := fun c50 => ?_)
      · -- then_t50
        rw [if_pos (by omega)] at hD
        refine JC.re (fun w h => Upd.nilOwn (Upd.nilOwn h 33 7) 33 7) ?_
        refine JC.rs ?_
        refine Seq.p rfl (Ev.buildN [_, _, _, _, _, _] pl.api_Book z.api_Book) ?_
        refine Seq.p rfl Ev.move ?_
        refine Seq.p rfl (Ev.lenSl sl.sl_uint8 (hr := hr.r)) ?_
        refine Seq.storeN [_, _, _, _, _, _] sz.api_Book (k := ?_)
        refine Seq.p rfl Ev.assign ?_
        refine Seq.p rfl Ev.assign ?_
        refine Seq.nil ?_
        refine JC.ret ?_
        -- return 3
        show retQ _ _ _ _ _ _ _ _
        refine retB3 ag.api_Book (H' := [restC (.slice none 0 0) [], restC (.slice none 0 0) []]) (hp := Part.here (Part.here (Part.nil _))) (hpost := ?_)
        refine decZero ?_
        rw [hD]
      · -- else_t50
        rw [if_neg (by omega)] at hD
        refine JC.skip ?_
        refine JC.seq ?_
        refine JC.rs ?_
        refine Seq.p rfl Ev.move ?_
        refine Seq.p rfl (Ev.lenSl sl.sl_uint8 (hr := hr.r)) ?_
        refine Seq.p rfl Ev.move ?_
        refine Seq.p rfl (Ev.addN (c := 4)) ?_
        refine Seq.p rfl Ev.gt ?_
        refine Seq.nil ?_
        first | refine JC.c (ht := fun c58 => ?_) (hf := fun c58 => ?_) | refine JC.cb (ht := fun c58 => ?_) (hf := fun c58 => ?_)
        · -- then_t58
          rw [if_pos (by omega)] at hD
          refine JC.re (fun w h => Upd.nilOwn (Upd.nilOwn h 33 7) 33 7) ?_
          refine JC.rs ?_
          refine Seq.p rfl (Ev.buildN [_, _, _, _, _, _] pl.api_Book z.api_Book) ?_
          refine Seq.p rfl Ev.move ?_
          refine Seq.p rfl (Ev.addN (c := 4)) ?_
          refine Seq.storeN [_, _, _, _, _, _] sz.api_Book (k := ?_)
          refine Seq.p rfl Ev.assign ?_
          refine Seq.p rfl Ev.assign ?_
          refine Seq.nil ?_
          refine JC.ret ?_
          -- return 4
          show retQ _ _ _ _ _ _ _ _
          refine retB3 ag.api_Book (H' := [restC (.slice none 0 0) [], restC (.slice none 0 0) []]) (hp := Part.here (Part.here (Part.nil _))) (hpost := ?_)
          refine decZero ?_
          rw [hD, show ((endOf l + 4 : Nat) : Int) = (endOf l : Int) + 4 by omega]
        · -- else_t58
          rw [if_neg (by omega)] at hD
          have hlen : l.length = endOf l + 4 := by omega
          refine JC.skip ?_
          refine JC.seq ?_
          refine JC.qs mixed (by kernel_rfl) ?_
          refine Qui.p rfl Ev.move ?_
          refine Qui.p rfl Ev.move ?_
          refine Qui.call rfl (fun w hw => refGet (k := 4) (hr.up hw) hB (by omega) (by omega)) ?_
          refine Qui.p rfl Ev.move ?_
          refine Qui.p rfl Ev.move ?_
          refine Qui.p rfl (Ev.cut sl.sl_uint8 (hr := hr.r) (l := 0) (h := endOf l) (hlo := rfl) (hhi := ⟨_, (by repeat (first | exact Look.here | apply Look.there (hne := rfl) | exact Look.const | apply Look.mix rfl | exact Look.arg0 | apply Look.args | exact Look.func))⟩)) ?_
          refine Qui.call rfl (fun w hw => refSum ((hr.up hw).head (by omega))) ?_
          refine Qui.p rfl (Ev.convU64W it.uint32 it.uint64) ?_
          refine Qui.p rfl Ev.ne ?_
          refine Qui.nil ?_
          first | refine JC.c (ht := fun c70 => ?_) (hf := fun c70 => ?_) | refine JC.cb (ht := fun c70 => ?_) (hf := fun c70 => ?_)
          · -- then_t70
            rw [if_pos (show le l (endOf l) 4 ≠ _ from c70)] at hD
            refine JC.re (fun w h => Upd.nilOwn (Upd.nilOwn h 33 7) 33 7) ?_
            refine JC.rs ?_
            refine Seq.p rfl (Ev.buildN [_, _, _, _, _, _] pl.api_Book z.api_Book) ?_
            refine Seq.p rfl Ev.move ?_
            refine Seq.storeN [_, _, _, _, _, _] sz.api_Book (k := ?_)
            refine Seq.p rfl Ev.assign ?_
            refine Seq.p rfl Ev.assign ?_
            refine Seq.nil ?_
            refine JC.ret ?_
            -- return 5
            show retQ _ _ _ _ _ _ _ _
            refine retB3 ag.api_Book (H' := [restC (.slice none 0 0) [], restC (.slice none 0 0) []]) (hp := Part.here (Part.here (Part.nil _))) (hpost := ?_)
            refine decZero ?_
            rw [hD]
          · -- else_t70
            rw [if_neg (show ¬ le l (endOf l) 4 ≠ _ from c70)] at hD
            have g8 := le_range2 hB 8
            have b10 := hB.at (k := 10) (by omega)
            refine JC.skip ?_
            refine JC.as mixed ?_
            refine Any.p 0 rfl (by kernel_rfl) (by kernel_rfl) (by kernel_rfl) rfl Ev.move ?_
            refine Any.call 1 rfl (by kernel_rfl) (by kernel_rfl) (by kernel_rfl) rfl (fun w hw => refGet (a := 8) (k := 2) (hr.up hw) hB (by omega) (by omega)) ?_
            refine Any.p 2 rfl (by kernel_rfl) (by kernel_rfl) (by kernel_rfl) rfl (Ev.conv64 it.uint64 it.int (h := ⟨Int.le_trans (by decide) g8.1, Int.le_trans g8.2 (by decide)⟩)) ?_
            refine Any.p 3 rfl (by kernel_rfl) (by kernel_rfl) (by kernel_rfl) rfl Ev.move ?_
            refine Any.p 4 rfl (by kernel_rfl) (by kernel_rfl) (by kernel_rfl) rfl (Ev.iaN (i := 10) sl.sl_uint8 (hr := hr.r)) ?_
            refine Any.p 5 rfl (by kernel_rfl) (by kernel_rfl) (by kernel_rfl) rfl (Ev.ldE1 sc.uint8 (hr := hr.r)) ?_
            refine Any.p 6 rfl (by kernel_rfl) (by kernel_rfl) (by kernel_rfl) rfl (Ev.conv64 it.uint8 it.int) ?_
            rw [← le_one (by omega)]
            refine Any.p 7 rfl (by kernel_rfl) (by kernel_rfl) (by kernel_rfl) rfl (Ev.buildN [_, _] pl.api_Config z.api_Config) ?_
            refine Any.p 8 rfl (by kernel_rfl) (by kernel_rfl) (by kernel_rfl) rfl Ev.move ?_
            refine Any.call 9 rfl (by kernel_rfl) (by kernel_rfl) (by kernel_rfl) rfl (fun w hw => refGet (a := 11) (k := 8) (hr.up hw) hB (by omega) (by omega)) ?_
            refine Any.p 10 rfl (by kernel_rfl) (by kernel_rfl) (by kernel_rfl) rfl Ev.move ?_
            refine Any.call 11 rfl (by kernel_rfl) (by kernel_rfl) (by kernel_rfl) rfl (fun w hw => refGet (a := 19) (k := 8) (hr.up hw) hB (by omega) (by omega)) ?_
            refine Any.p 12 rfl (by kernel_rfl) (by kernel_rfl) (by kernel_rfl) rfl (Ev.buildN [_, _, _, _, _, _] pl.api_Book z.api_Book) ?_
            refine Any.one 13 rfl (by kernel_rfl) ?_
            refine Seq.alloc (cs := [_, _, _, _, _, _]) (hz := z.api_Book) (k := ?_); intro b9
            refine Seq.nil ⟨(by repeat (first | exact Part.refl _ | exact Part.nil _ | apply Part.here | apply Part.skip)), ?_⟩
            refine Any.one 14 rfl (by kernel_rfl) ?_
            refine Seq.storeN [_, _, _, _, _, _] sz.api_Book (k := ?_)
            refine Seq.nil ⟨(by repeat (first | exact Part.refl _ | exact Part.nil _ | apply Part.here | apply Part.skip)), ?_⟩
            refine Any.done (by kernel_rfl) ?_
            refine JC.rs ?_
            refine Seq.p rfl Ev.move ?_
            refine Seq.p rfl Ev.move ?_
            refine Seq.call rfl (fun w hw => refOrders (p := 31) (m := nBuys l) (hr.up hw) hB (by omega) (by omega)) (F := _) (by exact List.Perm.refl _) ?_
            rintro _ _ ⟨A88, c88, rfl, rfl⟩
            simp only [List.cons_append, List.nil_append]
            refine Seq.p rfl (Ev.faB fd.api_Book_1) ?_
            refine Seq.storeN [_, _, _, _, _, _] sz.sl_api_Resting (k := ?_)
            refine Seq.nil ?_
            refine JC.rs ?_
            refine Seq.p rfl Ev.move ?_
            refine Seq.p rfl Ev.move ?_
            refine Seq.p rfl (Ev.mulN (c := 29)) ?_
            refine Seq.p rfl (Ev.addN (m := 31)) ?_
            refine Seq.p rfl Ev.move ?_
            refine Seq.call rfl (fun w hw => refOrders (p := 31 + 29 * nBuys l) (m := nSells l) (hr.up hw) hB (by omega) (by omega)) (F := _) (by exact List.Perm.refl _) ?_
            rintro _ _ ⟨A95, c95, rfl, rfl⟩
            simp only [List.cons_append, List.nil_append]
            refine Seq.p rfl (Ev.faB fd.api_Book_2) ?_
            refine Seq.storeN [_, _, _, _, _, _] sz.sl_api_Resting (k := ?_)
            refine Seq.nil ?_
            refine JC.seq ?_
            refine JC.rs ?_
            refine Seq.p rfl (Ev.ldBA ag.api_Book) ?_
            refine Seq.callP rfl (fun w hw => refValid (b := bookOf l) (RAt.up (RAt.own (enc := Resting.enc) (xs := ordersAt l 31 (nBuys l)) (hs := by rw [ordersAt_length]; omega)) hw) (RAt.up (RAt.own (enc := Resting.enc) (xs := ordersAt l (31 + 29 * nBuys l) (nSells l)) (hs := by rw [ordersAt_length]; omega)) hw) (wf_book hB)) ?_
            refine Seq.p rfl Ev.ne ?_
            refine Seq.nil ?_
            first | refine JC.c (ht := fun c99 => ?_) (hf := fun c99 => ?_) | refine JC.cb (ht := fun c99 => ?_) (hf := fun c99 => ?_)
            · -- then_t99
              rw [if_pos c99] at hD
              refine JC.re (fun w h => Upd.nilOwn (Upd.nilOwn h 33 7) 33 7) ?_
              refine JC.rs ?_
              refine Seq.p rfl (Ev.buildN [_, _, _, _, _, _] pl.api_Book z.api_Book) ?_
              refine Seq.storeN [_, _, _, _, _, _] sz.api_Book (k := ?_)
              refine Seq.p rfl Ev.assign ?_
              refine Seq.p rfl Ev.assign ?_
              refine Seq.nil ?_
              refine JC.ret ?_
              -- return 6
              show retQ _ _ _ _ _ _ _ _
              refine retB3 ag.api_Book (H' := [restC (.slice none 0 0) [], restC (.slice none 0 0) []]) (hp := Part.here (Part.here (Part.nil _))) (hpost := ?_)
              refine decZero ?_
              rw [hD]
            · -- else_t99
              rw [if_neg c99] at hD
              refine JC.skip ?_
              refine JC.rs ?_
              refine Seq.p rfl (Ev.ldBA ag.api_Book) ?_
              refine Seq.storeN [_, _, _, _, _, _] sz.api_Book (k := ?_)
              refine Seq.p rfl Ev.assign ?_
              refine Seq.p rfl Ev.assign ?_
              refine Seq.nil ?_
              refine JC.ret ?_
              -- return 7
              show retQ _ _ _ _ _ _ _ _
              refine retB3 ag.api_Book (H' := [restC _ (ordersAt l (31 + 29 * nBuys l) (nSells l)), restC _ (ordersAt l 31 (nBuys l))]) (hp := Part.here (Part.here (Part.nil _))) (hpost := ?_)
              exact decBook hD
end Go.Rx
