/- A part of the proof: the text N2. -/
import Derived.Test.YtdfleghechbcpaaN1
namespace Go.Rx
open Go Go.RowKit
set_option linter.unusedVariables false
set_option linter.unusedSimpArgs false
def takenF (f : Frame) (x : RF) : Int := if 0 < x.most then andU (down f.words[x.word.toNat]! x.shift) x.most else down f.words[x.word.toNat]! x.shift
set_option maxHeartbeats 1000000 in
theorem refTaken {w : World} {k g0 g1 g2 g3 g4 g5 g6 : Int} {x : RF} (hx : 0 ≤ x.word ∧ x.word < 7 ∧ 0 ≤ x.shift) : Spec Go.Proofs.Try.prog 26 #[.agg (frV k g0 g1 g2 g3 g4 g5 g6).toArray, .agg x.enc.toArray] w [] (fun u _ => u = .int .u64 (takenF ⟨k, [g0, g1, g2, g3, g4, g5, g6]⟩ x)) := by
  have hg := get_cells k [g0, g1, g2, g3, g4, g5, g6] x.word.toNat (by simp only [List.length_cons, List.length_nil]; omega)
  refine Spec.enter (fn := Go.Proofs.Try.f26) (n := 22) [.agg (frV k g0 g1 g2 g3 g4 g5 g6).toArray, .agg x.enc.toArray] Go.Proofs.Try.func26 (by kernel_rfl) rfl Go.Proofs.Try.ntmps26 Go.Proofs.Try.results26 rfl (Own.nil _) ?_
  refine JC.rs ?_
  refine Seq.box (cs := [_, _, _, _, _, _, _, _]) (k := ?_); intro b2
  refine Seq.box (cs := [_, _, _, _]) (k := ?_); intro b3
  refine Seq.p rfl Ev.assign ?_
  refine Seq.nil ?_
  refine JC.qs mixed (by kernel_rfl) ?_
  refine Qui.p rfl (Ev.faB fd.bourseref04_field_2) ?_
  refine Qui.p rfl (Ev.ldB sc.int) ?_
  refine Qui.p rfl (Ev.faB fd.api_Frame_1) ?_
  refine Qui.p rfl (Ev.iaArrB ar.a7_uint64) ?_
  refine Qui.p rfl (Ev.ldB sc.uint64 (hv := hg)) ?_
  refine Qui.p rfl (Ev.faB fd.bourseref04_field_3) ?_
  refine Qui.p rfl (Ev.ldB sc.int) ?_
  refine Qui.p rfl Ev.shrW ?_
  refine Qui.p rfl Ev.assign ?_
  refine Qui.nil ?_
  refine JC.seq ?_
  refine JC.rs ?_
  refine Seq.p rfl (Ev.faB fd.bourseref04_field_1) ?_
  refine Seq.p rfl (Ev.ldB sc.uint64) ?_
  refine Seq.p rfl Ev.gt ?_
  refine Seq.nil ?_
  first | refine JC.c (ht := fun c16 => ?_) (hf := fun c16 => ?_) | refine JC.cb (ht := fun c16 => ?_) (hf := fun c16 => ?_)
  · -- then_t16
    refine JC.rs ?_
    refine Seq.p rfl Ev.move ?_
    refine Seq.p rfl (Ev.faB fd.bourseref04_field_1) ?_
    refine Seq.p rfl (Ev.ldB sc.uint64) ?_
    refine Seq.p rfl (Ev.bits (k := .u64) (· &&& ·) (.inl ⟨rfl, rfl⟩)) ?_
    refine Seq.p rfl Ev.assign ?_
    refine Seq.nil ?_
    refine JC.ret ?_
    -- return 0
    show retQ _ _ _ _ _ _ _ _
    refine ret1 (hp := Part.nil _) (hpost := ?_)
    rw [takenF, if_pos c16]
    rfl
  · -- else_t16
    refine JC.skip ?_
    refine JC.rs ?_
    refine Seq.p rfl Ev.move ?_
    refine Seq.p rfl Ev.assign ?_
    refine Seq.nil ?_
    refine JC.ret ?_
    -- return 1
    show retQ _ _ _ _ _ _ _ _
    refine ret1 (hp := Part.nil _) (hpost := ?_)
    rw [takenF, if_neg c16]
    rfl
def takeGo (f : Frame) (l : List RF) (a : Input) : Input := l.foldl (fun a x => withF a x.tag (takenF f x)) a
theorem takeGo_snoc (f : Frame) (l : List RF) (a : Input) (i : Nat) (h : i < l.length) : takeGo f (l.take (i + 1)) a = withF (takeGo f (l.take i) a) l[i]!.tag (takenF f l[i]!) := by
  have : l.take (i + 1) = l.take i ++ [l[i]!] := by
    rw [List.take_succ_eq_append_getElem h, getElem!_pos l i h]
  rw [this]
  unfold takeGo
  rw [List.foldl_append]
  rfl
set_option maxHeartbeats 4000000 in
set_option maxRecDepth 100000 in
theorem refFields0 {w : World} {k : Int} (hk : ¬ (1 ≤ k ∧ k ≤ 4)) : Spec Go.Proofs.Try.prog 18 #[.int .i64 k] w [] (fun u _ => u = .slice none 0 0) := by
  refine Spec.enter (fn := Go.Proofs.Try.f18) (n := 40) [.int .i64 k] Go.Proofs.Try.func18 (by kernel_rfl) rfl Go.Proofs.Try.ntmps18 Go.Proofs.Try.results18 rfl (Own.nil _) ?_
  refine JC.rs ?_
  refine Seq.p rfl Ev.assign ?_
  refine Seq.nil ?_
  refine JC.rs ?_
  refine Seq.p rfl (Ev.buildN [_, _, _, _] pl.bourseref04_field z.bourseref04_field) ?_
  refine Seq.p rfl (Ev.buildN [_, _, _, _] pl.bourseref04_field z.bourseref04_field) ?_
  refine Seq.alloc (cs := [_, _, _, _]) (hz := z.bourseref04_field) (k := ?_); intro b3
  refine Seq.alloc (cs := [_, _, _, _]) (hz := z.bourseref04_field) (k := ?_); intro b4
  refine Seq.storeN [_, _, _, _] sz.bourseref04_field (k := ?_)
  refine Seq.storeN [_, _, _, _] sz.bourseref04_field (k := ?_)
  refine Seq.nil ?_
  refine JC.rs ?_
  refine Seq.p rfl (Ev.buildN [_, _, _, _] pl.bourseref04_field z.bourseref04_field) ?_
  refine Seq.p rfl (Ev.buildN [_, _, _, _] pl.bourseref04_field z.bourseref04_field) ?_
  refine Seq.p rfl (Ev.buildN [_, _, _, _] pl.bourseref04_field z.bourseref04_field) ?_
  refine Seq.alloc (cs := [_, _, _, _]) (hz := z.bourseref04_field) (k := ?_); intro b5
  refine Seq.alloc (cs := [_, _, _, _]) (hz := z.bourseref04_field) (k := ?_); intro b6
  refine Seq.alloc (cs := [_, _, _, _]) (hz := z.bourseref04_field) (k := ?_); intro b7
  refine Seq.storeN [_, _, _, _] sz.bourseref04_field (k := ?_)
  refine Seq.storeN [_, _, _, _] sz.bourseref04_field (k := ?_)
  refine Seq.storeN [_, _, _, _] sz.bourseref04_field (k := ?_)
  refine Seq.nil ?_
  refine JC.seq ?_
  refine JC.rs ?_
  refine Seq.p rfl Ev.move ?_
  refine Seq.nil ?_
  refine JC.blk ?_
  refine JC.rs ?_
  refine Seq.p rfl Ev.eq ?_
  refine Seq.p rfl Ev.assign ?_
  refine Seq.nil ?_
  first | refine JC.c (ht := fun c14 => ?_) (hf := fun c14 => ?_) | refine JC.cb (ht := fun c14 => ?_) (hf := fun c14 => ?_)
  · -- then_t14
    exfalso; omega
  · -- else_t14
    refine JC.rs ?_
    refine Seq.p rfl Ev.eq ?_
    refine Seq.p rfl Ev.assign ?_
    refine Seq.nil ?_
    first | refine JC.c (ht := fun c24 => ?_) (hf := fun c24 => ?_) | refine JC.cb (ht := fun c24 => ?_) (hf := fun c24 => ?_)
    · -- then_t24
      exfalso; omega
    · -- else_t24
      refine JC.rs ?_
      refine Seq.p rfl Ev.eq ?_
      refine Seq.p rfl Ev.assign ?_
      refine Seq.nil ?_
      first | refine JC.c (ht := fun c28 => ?_) (hf := fun c28 => ?_) | refine JC.cb (ht := fun c28 => ?_) (hf := fun c28 => ?_)
      · -- then_t28
        exfalso; omega
      · -- else_t28
        refine JC.rs ?_
        refine Seq.p rfl Ev.eq ?_
        refine Seq.p rfl Ev.assign ?_
        refine Seq.nil ?_
        first | refine JC.c (ht := fun c36 => ?_) (hf := fun c36 => ?_) | refine JC.cb (ht := fun c36 => ?_) (hf := fun c36 => ?_)
        · -- then_t36
          exfalso; omega
        · -- else_t36
          refine JC.skip ?_
          refine JC.rs ?_
          refine Seq.p rfl Ev.assign ?_
          refine Seq.nil ?_
          refine JC.ret ?_
          -- return 0
          show retQ _ _ _ _ _ _ _ _
          refine ret1 (hp := Part.nil _) (hpost := ?_)
          rfl
def refUnpackI (f : Frame) : Input := takeGo f (refFieldsF f.kind) (bareF f.kind)
def refUnpackF (f : Frame) : Input × Int := if f.kind < 1 ∨ 4 < f.kind then (input0, 41) else if (refPackF (refUnpackI f)).2 = 0 ∧ (refPackF (refUnpackI f)).1 = f then (refUnpackI f, 0) else (input0, 40)
set_option maxHeartbeats 4000000 in
set_option maxRecDepth 100000 in
theorem refUnpack0 {w : World} {k g0 g1 g2 g3 g4 g5 g6 : Int} (hk8 : 0 ≤ k ∧ k ≤ 255) (hk : ¬ (1 ≤ k ∧ k ≤ 4)) : Spec Go.Proofs.Try.prog 13 #[.agg (frV k g0 g1 g2 g3 g4 g5 g6).toArray] w [] (fun u _ => u = unpackV (refUnpackF ⟨k, [g0, g1, g2, g3, g4, g5, g6]⟩)) := by
  refine Spec.enter (fn := Go.Proofs.Try.f13) (n := 54) [.agg (frV k g0 g1 g2 g3 g4 g5 g6).toArray] Go.Proofs.Try.func13 (by kernel_rfl) rfl Go.Proofs.Try.ntmps13 Go.Proofs.Try.results13 rfl (Own.nil _) ?_
  refine JC.rs ?_
  refine Seq.box (cs := [_, _, _, _, _, _, _, _]) (k := ?_); intro b1
  refine Seq.alloc (cs := [_, _, _, _, _, _, _, _, _, _, _]) (hz := z.api_Input) (k := ?_); intro b2
  refine Seq.p rfl Ev.assign ?_
  refine Seq.nil ?_
  refine JC.rs ?_
  refine Seq.p rfl (Ev.faB fd.api_Frame_0) ?_
  refine Seq.p rfl (Ev.ldB sc.uint8) ?_
  refine Seq.p rfl (Ev.conv64 it.uint8 it.int) ?_
  refine Seq.callP rfl (fun w hw => refFields0 hk) ?_
  refine Seq.p rfl Ev.assign ?_
  refine Seq.nil ?_
  refine JC.seq ?_
  refine JC.rs ?_
  refine Seq.p rfl Ev.move ?_
  refine Seq.p rfl (Ev.lenSl sl.sl_bourseref04_field (hr := (RSl.r (RSl.empty RF.enc 4 w _)))) ?_
  refine Seq.p rfl Ev.eq ?_
  refine Seq.nil ?_
  first | refine JC.c (ht := fun c15 => ?_) (hf := fun c15 => ?_) | refine JC.cb (ht := fun c15 => ?_) (hf := fun c15 => ?_)
  · -- then_t15
    refine JC.rs ?_
    refine Seq.p rfl (Ev.buildN [_, _, _, _, _, _, _, _, _, _, _] pl.api_Input z.api_Input) ?_
    refine Seq.storeN [_, _, _, _, _, _, _, _, _, _, _] sz.api_Input (k := ?_)
    refine Seq.p rfl Ev.assign ?_
    refine Seq.nil ?_
    refine JC.ret ?_
    -- return 0
    show retQ _ _ _ _ _ _ _ _
    refine retB2 ag.api_Input (hp := Part.nil _) (hpost := ?_)
    rw [refUnpackF, if_pos (show k < 1 ∨ 4 < k by omega)]
    rfl
  · -- else_t15
    exact absurd rfl c15
set_option maxHeartbeats 4000000 in
set_option maxRecDepth 100000 in
theorem refUnpack1 {w : World} {k g0 g1 g2 g3 g4 g5 g6 : Int} (hk : 1 ≤ k ∧ k ≤ 4) : Spec Go.Proofs.Try.prog 13 #[.agg (frV k g0 g1 g2 g3 g4 g5 g6).toArray] w [] (fun u _ => u = unpackV (refUnpackF ⟨k, [g0, g1, g2, g3, g4, g5, g6]⟩)) := by
  have hng : ¬ (k < 1 ∨ 4 < k) := by omega
  have hwd := refFieldsF_words k
  have hsm := refFieldsF_small k
  have hpos : 1 ≤ (refFieldsF k).length := by
    have : k = 1 ∨ k = 2 ∨ k = 3 ∨ k = 4 := by omega
    rcases this with rfl | rfl | rfl | rfl <;> exact Nat.le_of_ble_eq_true rfl
  have hxx : refUnpackI ⟨k, [g0, g1, g2, g3, g4, g5, g6]⟩ = takeGo ⟨k, [g0, g1, g2, g3, g4, g5, g6]⟩ (refFieldsF k) (bareF k) := rfl
  generalize hF : refUnpackI ⟨k, [g0, g1, g2, g3, g4, g5, g6]⟩ = x at hxx
  have hsp := @refFields
  generalize hl : refFieldsF k = l at hwd hsm hpos hxx
  obtain ⟨a0, a1, a2, a3, a4, a5, a6, kk, ee, hP⟩ : ∃ a0 a1 a2 a3 a4 a5 a6 kk ee, refPackF x = (⟨kk, [a0, a1, a2, a3, a4, a5, a6]⟩, ee) := by
    have h7 : (refPackF x).1.words.length = 7 := by
      unfold refPackF
      split
      · split
        · exact laidGo_length _ _ _
        · rfl
      · rfl
    obtain ⟨a0, a1, a2, a3, a4, a5, a6, h8⟩ := list7 h7
    exact ⟨a0, a1, a2, a3, a4, a5, a6, (refPackF x).1.kind, (refPackF x).2, by rw [← h8]⟩
  refine Spec.enter (fn := Go.Proofs.Try.f13) (n := 54) [.agg (frV k g0 g1 g2 g3 g4 g5 g6).toArray] Go.Proofs.Try.func13 (by kernel_rfl) rfl Go.Proofs.Try.ntmps13 Go.Proofs.Try.results13 rfl (Own.nil _) ?_
  refine JC.rs ?_
  refine Seq.box (cs := [_, _, _, _, _, _, _, _]) (k := ?_); intro b1
  refine Seq.alloc (cs := [_, _, _, _, _, _, _, _, _, _, _]) (hz := z.api_Input) (k := ?_); intro b2
  refine Seq.p rfl Ev.assign ?_
  refine Seq.nil ?_
  refine JC.rs ?_
  refine Seq.p rfl (Ev.faB fd.api_Frame_0) ?_
  refine Seq.p rfl (Ev.ldB sc.uint8) ?_
  refine Seq.p rfl (Ev.conv64 it.uint8 it.int) ?_
  refine Seq.call rfl (fun w hw => hl ▸ hsp hk) (F := _) (by exact List.Perm.refl _) ?_
  rintro _ _ ⟨bl, rfl, rfl⟩
  refine Seq.p rfl Ev.assign ?_
  refine Seq.nil ?_
  refine JC.seq ?_
  refine JC.rs ?_
  refine Seq.p rfl Ev.move ?_
  refine Seq.p rfl (Ev.lenSl sl.sl_bourseref04_field (hr := RAt.box (enc := RF.enc) (sz := 4) (hs := by omega))) ?_
  refine Seq.p rfl Ev.eq ?_
  refine Seq.nil ?_
  first | refine JC.c (ht := fun c15 => ?_) (hf := fun c15 => ?_) | refine JC.cb (ht := fun c15 => ?_) (hf := fun c15 => ?_)
  · -- then_t15
    exfalso; omega
  · -- else_t15
    refine JC.skip ?_
    refine JC.rs ?_
    refine Seq.p rfl (Ev.faB fd.api_Frame_0) ?_
    refine Seq.p rfl (Ev.ldB sc.uint8) ?_
    refine Seq.p rfl (Ev.conv64 it.uint8 it.int) ?_
    refine Seq.callP rfl (fun w hw => refBare) ?_
    refine Seq.alloc (cs := [_, _, _, _, _, _, _, _, _, _, _]) (hz := z.api_Input) (k := ?_); intro b5
    refine Seq.storeN [_, _, _, _, _, _, _, _, _, _, _] sz.api_Input (k := ?_)
    refine Seq.nil ?_
    refine JC.seq ?_
    refine JC.rs ?_
    refine Seq.p rfl Ev.assign ?_
    refine Seq.nil ?_
    refine JC.blk ?_
    refine JC.loop (α := Nat) (I := fun i e1 H1 => Has [6, 21, 22, 23, 24, 25, 26, 27, 28, 29, 30, 31, 32, 33, 34, 35, 36, 37, 38, 39] [(6, .int .i64 (i : Int))] _ e1 ∧ H1 = [.box b5 27 (takeGo ⟨k, [g0, g1, g2, g3, g4, g5, g6]⟩ (l.take i) (bareF k)).enc, .box bl 65 (l.flatMap RF.enc), _, .box b1 30 (frV k g0 g1 g2 g3 g4 g5 g6)] ∧ i ≤ l.length) (μ := fun i => l.length - i) 0 ⟨Has.mk Off.refl (allLook_cons (by repeat (first | exact Look.here | apply Look.there (hne := rfl) | exact Look.const | apply Look.mix rfl | exact Look.arg0 | apply Look.args | exact Look.func)) allLook_nil), rfl, by omega⟩ ?_
    rintro i _ _ ⟨⟨ui, rfl⟩, rfl, hi⟩; dsimp only [setL]
    refine JC.seq ?_
    refine JC.rs ?_
    refine Seq.p rfl Ev.move ?_
    refine Seq.p rfl Ev.move ?_
    refine Seq.p rfl (Ev.lenSl sl.sl_bourseref04_field (hr := RAt.box (enc := RF.enc) (sz := 4) (hs := by omega))) ?_
    refine Seq.p rfl Ev.lt ?_
    refine Seq.nil ?_
    first | refine JC.c (ht := fun c24 => ?_) (hf := fun c24 => ?_) | refine JC.cb (ht := fun c24 => ?_) (hf := fun c24 => ?_)
    · -- then_t24
      have hi2 : i < l.length := by omega
      have hwi := hwd l[i]! (by rw [getElem!_pos l i hi2]; exact List.getElem_mem hi2)
      refine JC.skip ?_
      refine JC.seq ?_
      refine JC.blk ?_
      refine JC.anyE 0 mixed ?_
      refine Any.p 1 rfl (by kernel_rfl) (by kernel_rfl) (by kernel_rfl) rfl Ev.move ?_
      refine Any.p 2 rfl (by kernel_rfl) (by kernel_rfl) (by kernel_rfl) rfl Ev.move ?_
      refine Any.p 3 rfl (by kernel_rfl) (by kernel_rfl) (by kernel_rfl) rfl (Ev.iaN sl.sl_bourseref04_field (hr := RAt.box (enc := RF.enc) (sz := 4) (hs := by omega))) ?_
      refine Any.p 4 rfl (by kernel_rfl) (by kernel_rfl) (by kernel_rfl) rfl (Ev.fa fd.bourseref04_field_0) ?_
      refine Any.p 5 rfl (by kernel_rfl) (by kernel_rfl) (by kernel_rfl) rfl (Ev.ldE sc.int (hr := RAt.box (enc := RF.enc) (sz := 4) (hs := by omega))) ?_
      refine Any.p 6 rfl (by kernel_rfl) (by kernel_rfl) (by kernel_rfl) rfl (Ev.ldBA ag.api_Frame) ?_
      refine Any.p 7 rfl (by kernel_rfl) (by kernel_rfl) (by kernel_rfl) rfl Ev.move ?_
      refine Any.p 8 rfl (by kernel_rfl) (by kernel_rfl) (by kernel_rfl) rfl Ev.move ?_
      refine Any.p 9 rfl (by kernel_rfl) (by kernel_rfl) (by kernel_rfl) rfl (Ev.iaN sl.sl_bourseref04_field (hr := RAt.box (enc := RF.enc) (sz := 4) (hs := by omega))) ?_
      refine Any.p 10 rfl (by kernel_rfl) (by kernel_rfl) (by kernel_rfl) rfl (Ev.ldEA ag.bourseref04_field (hr := RAt.box (enc := RF.enc) (sz := 4) (hs := by omega))) ?_
      refine Any.two 0 11 rfl rfl (by kernel_rfl) ?_ ?_
      · -- first 0
        refine Seq.p rfl (Ev.ldBA ag.api_Input) ?_
        refine Seq.nil ⟨(by repeat (first | exact Part.refl _ | exact Part.nil _ | apply Part.here | apply Part.skip)), ?_⟩
        refine Any.one 11 rfl (by kernel_rfl) ?_
        refine Seq.callP rfl (fun w hw => refTaken hwi) ?_
        refine Seq.nil ⟨(by repeat (first | exact Part.refl _ | exact Part.nil _ | apply Part.here | apply Part.skip)), ?_⟩
        refine Any.one 12 rfl (by kernel_rfl) ?_
        refine Seq.callP rfl (fun w hw => refWith) ?_
        refine Seq.nil ⟨(by repeat (first | exact Part.refl _ | exact Part.nil _ | apply Part.here | apply Part.skip)), ?_⟩
        refine Any.one 13 rfl (by kernel_rfl) ?_
        refine Seq.storeN [_, _, _, _, _, _, _, _, _, _, _] sz.api_Input (k := ?_)
        refine Seq.nil ⟨(by repeat (first | exact Part.refl _ | exact Part.nil _ | apply Part.here | apply Part.skip)), ?_⟩
        refine Any.done (by kernel_rfl) ?_
        refine JC.reg ?_
        refine Seq.p rfl Ev.move ?_
        refine Seq.p rfl (by first | exact Ev.inc | exact Ev.add) ?_
        refine Seq.p rfl Ev.assign ?_
        refine Seq.nil ?_
        exact ⟨i + 1, _, Part.refl _, ⟨Has.mk (by repeat (first | refine Off.upd ?_ rfl | exact Off.mix | refine Off.mix2 ?_ rfl | exact Off.refl)) (allLook_cons (by repeat (first | exact Look.here | apply Look.there (hne := rfl) | exact Look.const | apply Look.mix rfl | exact Look.arg0 | apply Look.args | exact Look.func)) allLook_nil), by rw [takeGo_snoc _ l _ i hi2]; rfl, by omega⟩, by omega⟩
      · -- first 11
        refine Seq.callP rfl (fun w hw => refTaken hwi) ?_
        refine Seq.nil ⟨(by repeat (first | exact Part.refl _ | exact Part.nil _ | apply Part.here | apply Part.skip)), ?_⟩
        refine Any.one 0 rfl (by kernel_rfl) ?_
        refine Seq.p rfl (Ev.ldBA ag.api_Input) ?_
        refine Seq.nil ⟨(by repeat (first | exact Part.refl _ | exact Part.nil _ | apply Part.here | apply Part.skip)), ?_⟩
        refine Any.one 12 rfl (by kernel_rfl) ?_
        refine Seq.callP rfl (fun w hw => refWith) ?_
        refine Seq.nil ⟨(by repeat (first | exact Part.refl _ | exact Part.nil _ | apply Part.here | apply Part.skip)), ?_⟩
        refine Any.one 13 rfl (by kernel_rfl) ?_
        refine Seq.storeN [_, _, _, _, _, _, _, _, _, _, _] sz.api_Input (k := ?_)
        refine Seq.nil ⟨(by repeat (first | exact Part.refl _ | exact Part.nil _ | apply Part.here | apply Part.skip)), ?_⟩
        refine Any.done (by kernel_rfl) ?_
        refine JC.reg ?_
        refine Seq.p rfl Ev.move ?_
        refine Seq.p rfl (by first | exact Ev.inc | exact Ev.add) ?_
        refine Seq.p rfl Ev.assign ?_
        refine Seq.nil ?_
        exact ⟨i + 1, _, Part.refl _, ⟨Has.mk (by repeat (first | refine Off.upd ?_ rfl | exact Off.mix | refine Off.mix2 ?_ rfl | exact Off.refl)) (allLook_cons (by repeat (first | exact Look.here | apply Look.there (hne := rfl) | exact Look.const | apply Look.mix rfl | exact Look.arg0 | apply Look.args | exact Look.func)) allLook_nil), by rw [takeGo_snoc _ l _ i hi2]; rfl, by omega⟩, by omega⟩
    · -- else_t24
      obtain rfl : i = l.length := by omega
      rw [List.take_length, ← hxx]
      refine JC.exit ?_ -- 0
      refine JC.rs ?_
      refine Seq.p rfl (Ev.ldBA ag.api_Input) ?_
      refine Seq.callP rfl (fun w hw => hP ▸ refPack) ?_
      refine Seq.p rfl Ev.move ?_
      refine Seq.p rfl Ev.extract ?_
      refine Seq.p rfl Ev.extract ?_
      refine Seq.alloc (cs := [_, _, _, _, _, _, _, _]) (hz := z.api_Frame) (k := ?_); intro b7
      refine Seq.storeN [_, _, _, _, _, _, _, _] sz.api_Frame (k := ?_)
      refine Seq.p rfl Ev.assign ?_
      refine Seq.nil ?_
      refine JC.seq ?_
      refine JC.rs ?_
      refine Seq.p rfl Ev.move ?_
      refine Seq.p rfl Ev.ne ?_
      refine Seq.p rfl Ev.move ?_
      refine Seq.split (d := 47) (k := ?_)
      rintro (_|_) h47
      · try simp only [decide_eq_true_eq, decide_eq_false_iff_not] at h47
        refine Seq.gy rfl rfl rfl ?_
        refine Seq.p rfl (Ev.ldBA ag.api_Frame) ?_
        refine Seq.gy rfl rfl rfl ?_
        refine Seq.p rfl (Ev.ldBA ag.api_Frame) ?_
        refine Seq.gy rfl rfl rfl ?_
        refine Seq.p rfl (Ev.neAg so.api_Frame ag.api_Frame gd.api_Frame) ?_
        refine Seq.p rfl Ev.pickF ?_
        refine Seq.nil ?_
        first | refine JC.c (ht := fun c51 => ?_) (hf := fun c51 => ?_) | refine JC.cb (ht := fun c51 => ?_) (hf := fun c51 => ?_)
        · -- then_t51
          refine JC.rs ?_
          refine Seq.p rfl (Ev.buildN [_, _, _, _, _, _, _, _, _, _, _] pl.api_Input z.api_Input) ?_
          refine Seq.storeN [_, _, _, _, _, _, _, _, _, _, _] sz.api_Input (k := ?_)
          refine Seq.p rfl Ev.assign ?_
          refine Seq.nil ?_
          refine JC.ret ?_
          -- return 0
          show retQ _ _ _ _ _ _ _ _
          refine retB2 ag.api_Input (hp := Part.nil _) (hpost := ?_)
          have c52 : (!eqL (Frame.enc ⟨kk, [a0, a1, a2, a3, a4, a5, a6]⟩) (Frame.enc ⟨k, [g0, g1, g2, g3, g4, g5, g6]⟩)) = true := c51
          rw [Frame.eqL_enc] at c52
          have hne : ¬ ((⟨kk, [a0, a1, a2, a3, a4, a5, a6]⟩ : Frame) = ⟨k, [g0, g1, g2, g3, g4, g5, g6]⟩) := by intro he; rw [decide_eq_true he] at c52; cases c52
          rw [refUnpackF, if_neg hng, hF, hP, if_neg (fun h => hne h.2)]
          rfl
        · -- else_t51
          refine JC.skip ?_
          refine JC.rs ?_
          refine Seq.p rfl (Ev.ldBA ag.api_Input) ?_
          refine Seq.storeN [_, _, _, _, _, _, _, _, _, _, _] sz.api_Input (k := ?_)
          refine Seq.p rfl Ev.assign ?_
          refine Seq.nil ?_
          refine JC.ret ?_
          -- return 1
          show retQ _ _ _ _ _ _ _ _
          refine retB2 ag.api_Input (hp := Part.nil _) (hpost := ?_)
          have c52 : (!eqL (Frame.enc ⟨kk, [a0, a1, a2, a3, a4, a5, a6]⟩) (Frame.enc ⟨k, [g0, g1, g2, g3, g4, g5, g6]⟩)) = false := c51
          rw [Frame.eqL_enc] at c52
          have heq : ((⟨kk, [a0, a1, a2, a3, a4, a5, a6]⟩ : Frame) = ⟨k, [g0, g1, g2, g3, g4, g5, g6]⟩) := of_ndec c52
          rw [refUnpackF, if_neg hng, hF, hP, if_pos ⟨Classical.not_not.1 h47, heq⟩]
          rfl
      · try simp only [decide_eq_true_eq, decide_eq_false_iff_not] at h47
        refine Seq.gn rfl rfl rfl rfl ?_
        refine Seq.gn rfl rfl rfl rfl ?_
        refine Seq.gn rfl rfl rfl rfl ?_
        refine Seq.p rfl Ev.pickT ?_
        refine Seq.nil ?_
        refine JC.cT (h := ?_)
        refine JC.rs ?_
        refine Seq.p rfl (Ev.buildN [_, _, _, _, _, _, _, _, _, _, _] pl.api_Input z.api_Input) ?_
        refine Seq.storeN [_, _, _, _, _, _, _, _, _, _, _] sz.api_Input (k := ?_)
        refine Seq.p rfl Ev.assign ?_
        refine Seq.nil ?_
        refine JC.ret ?_
        -- return 2
        show retQ _ _ _ _ _ _ _ _
        refine retB2 ag.api_Input (hp := Part.nil _) (hpost := ?_)
        rw [refUnpackF, if_neg hng, hF, hP, if_neg (fun h => h47 h.1)]
        rfl
end Go.Rx
