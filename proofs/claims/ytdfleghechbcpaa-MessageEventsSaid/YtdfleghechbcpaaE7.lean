/- A part of the proof: the text E7. -/
import Derived.Test.YtdfleghechbcpaaE6
namespace Go.Rx
open Go Go.RowKit
set_option linter.unusedVariables false
set_option linter.unusedSimpArgs false
def evTakeGo (f : Frame) (l : List RF) (a : Event) : Event := l.foldl (fun a x => withEventF a x.tag (takenF f x)) a
theorem evTakeGo_snoc (f : Frame) (l : List RF) (a : Event) (i : Nat) (h : i < l.length) : evTakeGo f (l.take (i + 1)) a = withEventF (evTakeGo f (l.take i) a) l[i]!.tag (takenF f l[i]!) := by
  have : l.take (i + 1) = l.take i ++ [l[i]!] := by
    rw [List.take_succ_eq_append_getElem h, getElem!_pos l i h]
  rw [this]
  unfold evTakeGo
  rw [List.foldl_append]
  rfl
def refUnpackEvI (f : Frame) : Event := evTakeGo f (toldRF (f.kind - 64)) (ev0 (f.kind - 64))
def refUnpackEvF (f : Frame) : Event × Int := if ¬ (1 ≤ f.kind - 64 ∧ f.kind - 64 ≤ 5) then (ev0 0, 41) else if (refPackEvF (refUnpackEvI f)).2 = 0 ∧ (refPackEvF (refUnpackEvI f)).1 = f then (refUnpackEvI f, 0) else (ev0 0, 40)
theorem refPackEvF_len (x : Event) : (refPackEvF x).1.words.length = 7 := by
  unfold refPackEvF
  split
  · split
    · exact laidGo_length _ _ _
    · rfl
  · rfl
set_option maxHeartbeats 4000000 in
set_option maxRecDepth 100000 in
theorem refUnpackEv0 {w : World} {k g0 g1 g2 g3 g4 g5 g6 : Int} (hk8 : 0 ≤ k ∧ k ≤ 255) (hk : ¬ (1 ≤ k - 64 ∧ k - 64 ≤ 5)) : Spec Go.Proofs.Try.prog 11 #[.agg (frV k g0 g1 g2 g3 g4 g5 g6).toArray] w [] (fun u _ => u = unpackEvV (refUnpackEvF ⟨k, [g0, g1, g2, g3, g4, g5, g6]⟩)) := by
  refine Spec.enter (fn := Go.Proofs.Try.f11) (n := 56) [.agg (frV k g0 g1 g2 g3 g4 g5 g6).toArray] Go.Proofs.Try.func11 (by kernel_rfl) rfl Go.Proofs.Try.ntmps11 Go.Proofs.Try.results11 rfl (Own.nil _) ?_
  refine JC.rs ?_
  refine Seq.box (cs := [_, _, _, _, _, _, _, _]) (k := ?_); intro b1
  refine Seq.alloc (cs := [_, _, _, _, _, _, _, _, _, _, _, _, _]) (hz := z.api_Event) (k := ?_); intro b2
  refine Seq.p rfl Ev.assign ?_
  refine Seq.nil ?_
  refine JC.rs ?_
  refine Seq.p rfl (Ev.faB fd.api_Frame_0) ?_
  refine Seq.p rfl (Ev.ldB sc.uint8) ?_
  refine Seq.p rfl (Ev.conv64 it.uint8 it.int) ?_
  refine Seq.p rfl Ev.sub ?_
  refine Seq.callP rfl (fun w hw => refTold0 hk) ?_
  refine Seq.p rfl Ev.assign ?_
  refine Seq.nil ?_
  refine JC.seq ?_
  refine JC.rs ?_
  refine Seq.p rfl Ev.move ?_
  refine Seq.p rfl (Ev.lenSl sl.sl_bourseref04_field (hr := (RSl.r (RSl.empty RF.enc 4 w _)))) ?_
  refine Seq.p rfl Ev.eq ?_
  refine Seq.nil ?_
  first | refine JC.c (ht := fun c16 => ?_) (hf := fun c16 => ?_) | refine JC.cb (ht := fun c16 => ?_) (hf := fun c16 => ?_)
  · -- then_t16
    refine JC.rs ?_
    refine Seq.p rfl (Ev.buildN [_, _, _, _, _, _, _, _, _, _, _, _, _] pl.api_Event z.api_Event) ?_
    refine Seq.storeN [_, _, _, _, _, _, _, _, _, _, _, _, _] sz.api_Event (k := ?_)
    refine Seq.p rfl Ev.assign ?_
    refine Seq.nil ?_
    refine JC.ret ?_
    -- return 0
    show retQ _ _ _ _ _ _ _ _
    refine retB2 ag.api_Event (hp := Part.nil _) (hpost := ?_)
    rw [refUnpackEvF, if_pos hk]
    rfl
  · -- else_t16
    exact absurd rfl c16
set_option maxHeartbeats 4000000 in
set_option maxRecDepth 100000 in
theorem refUnpackEv1 {w : World} {k g0 g1 g2 g3 g4 g5 g6 : Int} (hk8 : 0 ≤ k ∧ k ≤ 255) (hk : 1 ≤ k - 64 ∧ k - 64 ≤ 5) : Spec Go.Proofs.Try.prog 11 #[.agg (frV k g0 g1 g2 g3 g4 g5 g6).toArray] w [] (fun u _ => u = unpackEvV (refUnpackEvF ⟨k, [g0, g1, g2, g3, g4, g5, g6]⟩)) := by
  have hng : ¬ ¬ (1 ≤ k - 64 ∧ k - 64 ≤ 5) := fun h => h hk
  have hwd := toldRF_words (k - 64)
  have hsm := toldRF_small (k - 64)
  have hpos := toldRF_pos hk
  have hxx : refUnpackEvI ⟨k, [g0, g1, g2, g3, g4, g5, g6]⟩ = evTakeGo ⟨k, [g0, g1, g2, g3, g4, g5, g6]⟩ (toldRF (k - 64)) (ev0 (k - 64)) := rfl
  generalize hF : refUnpackEvI ⟨k, [g0, g1, g2, g3, g4, g5, g6]⟩ = x at hxx
  have hsp := @refTold
  generalize hl : toldRF (k - 64) = l at hwd hsm hpos hxx
  obtain ⟨a0, a1, a2, a3, a4, a5, a6, kk, ee, hP⟩ : ∃ a0 a1 a2 a3 a4 a5 a6 kk ee, refPackEvF x = (⟨kk, [a0, a1, a2, a3, a4, a5, a6]⟩, ee) := by
    obtain ⟨a0, a1, a2, a3, a4, a5, a6, h8⟩ := list7 (refPackEvF_len x)
    exact ⟨a0, a1, a2, a3, a4, a5, a6, (refPackEvF x).1.kind, (refPackEvF x).2, by rw [← h8]⟩
  refine Spec.enter (fn := Go.Proofs.Try.f11) (n := 56) [.agg (frV k g0 g1 g2 g3 g4 g5 g6).toArray] Go.Proofs.Try.func11 (by kernel_rfl) rfl Go.Proofs.Try.ntmps11 Go.Proofs.Try.results11 rfl (Own.nil _) ?_
  refine JC.rs ?_
  refine Seq.box (cs := [_, _, _, _, _, _, _, _]) (k := ?_); intro b1
  refine Seq.alloc (cs := [_, _, _, _, _, _, _, _, _, _, _, _, _]) (hz := z.api_Event) (k := ?_); intro b2
  refine Seq.p rfl Ev.assign ?_
  refine Seq.nil ?_
  refine JC.rs ?_
  refine Seq.p rfl (Ev.faB fd.api_Frame_0) ?_
  refine Seq.p rfl (Ev.ldB sc.uint8) ?_
  refine Seq.p rfl (Ev.conv64 it.uint8 it.int) ?_
  refine Seq.p rfl Ev.sub ?_
  refine Seq.call rfl (fun w hw => hl ▸ hsp hk) (F := _) (by exact List.Perm.refl _) ?_
  rintro _ _ ⟨bl, rfl, rfl⟩
  refine Seq.p rfl Ev.assign ?_
  refine Seq.nil ?_
  refine JC.seq ?_
  refine JC.rs ?_
  refine Seq.p rfl Ev.move ?_
  refine Seq.p rfl (Ev.lenSl sl.sl_bourseref04_field (hr := RAt.box (enc := RF.enc) (sz := 4) (hs := by omega))) ?_
  refine Seq.p rfl Ev.eq ?_
  refine Seq.nil ?_
  first | refine JC.c (ht := fun c16 => ?_) (hf := fun c16 => ?_) | refine JC.cb (ht := fun c16 => ?_) (hf := fun c16 => ?_)
  · -- then_t16
    exfalso; omega
  · -- else_t16
    refine JC.skip ?_
    refine JC.rs ?_
    refine Seq.p rfl (Ev.faB fd.api_Frame_0) ?_
    refine Seq.p rfl (Ev.ldB sc.uint8) ?_
    refine Seq.p rfl (Ev.conv64 it.uint8 it.int) ?_
    refine Seq.p rfl Ev.sub ?_
    refine Seq.p rfl (Ev.buildN [_, _, _, _, _, _, _, _, _, _, _, _, _] pl.api_Event z.api_Event) ?_
    refine Seq.alloc (cs := [_, _, _, _, _, _, _, _, _, _, _, _, _]) (hz := z.api_Event) (k := ?_); intro b5
    refine Seq.storeN [_, _, _, _, _, _, _, _, _, _, _, _, _] sz.api_Event (k := ?_)
    refine Seq.nil ?_
    refine JC.seq ?_
    refine JC.rs ?_
    refine Seq.p rfl Ev.assign ?_
    refine Seq.nil ?_
    refine JC.blk ?_
    refine JC.loop (α := Nat) (I := fun i e1 H1 => Has [6, 23, 24, 25, 26, 27, 28, 29, 30, 31, 32, 33, 34, 35, 36, 37, 38, 39, 40, 41] [(6, .int .i64 (i : Int))] _ e1 ∧ H1 = [.box b5 36 (evTakeGo ⟨k, [g0, g1, g2, g3, g4, g5, g6]⟩ (l.take i) (ev0 (k - 64))).enc, .box bl 65 (l.flatMap RF.enc), _, .box b1 30 (frV k g0 g1 g2 g3 g4 g5 g6)] ∧ i ≤ l.length) (μ := fun i => l.length - i) 0 ⟨Has.mk Off.refl (allLook_cons (by repeat (first | exact Look.here | apply Look.there (hne := rfl) | exact Look.const | apply Look.mix rfl | exact Look.arg0 | apply Look.args | exact Look.func)) allLook_nil), rfl, by omega⟩ ?_
    rintro i _ _ ⟨⟨ui, rfl⟩, rfl, hi⟩; dsimp only [setL]
    refine JC.seq ?_
    refine JC.rs ?_
    refine Seq.p rfl Ev.move ?_
    refine Seq.p rfl Ev.move ?_
    refine Seq.p rfl (Ev.lenSl sl.sl_bourseref04_field (hr := RAt.box (enc := RF.enc) (sz := 4) (hs := by omega))) ?_
    refine Seq.p rfl Ev.lt ?_
    refine Seq.nil ?_
    first | refine JC.c (ht := fun c26 => ?_) (hf := fun c26 => ?_) | refine JC.cb (ht := fun c26 => ?_) (hf := fun c26 => ?_)
    · -- then_t26
      have hi2 : i < l.length := by omega
      have hwi := hwd l[i]! (by rw [getElem!_pos l i hi2]; exact List.getElem_mem hi2)
      refine JC.skip ?_
      refine JC.seq ?_
      refine JC.blk ?_
      refine JC.anyE 0 mixed ?_
      refine Any.p 1 rfl (by kernel_rfl) (by kernel_rfl) (by kernel_rfl) rfl Ev.move ?_
      refine Any.p 2 rfl (by kernel_rfl) (by kernel_rfl) (by kernel_rfl) rfl Ev.move ?_
      refine Any.p 3 rfl (by kernel_rfl) (by kernel_rfl) (by kernel_rfl) rfl (Ev.iaN sl.sl_bourseref04_field (hr := RAt.box (enc := RF.enc) (sz := 4) (hs := by omega))) ?_
      refine Any.p 4 rfl (by kernel_rfl) (by kernel_rfl) (by kernel_rfl) rfl (Ev.fa fd.bourseref04_field_0) ?_
      refine Any.p 5 rfl (by kernel_rfl) (by kernel_rfl) (by kernel_rfl) rfl (Ev.ldE sc.int (hr := RAt.box (enc := RF.enc) (sz := 4) (hs := by omega))) ?_
      refine Any.p 6 rfl (by kernel_rfl) (by kernel_rfl) (by kernel_rfl) rfl (Ev.ldBA ag.api_Frame) ?_
      refine Any.p 7 rfl (by kernel_rfl) (by kernel_rfl) (by kernel_rfl) rfl Ev.move ?_
      refine Any.p 8 rfl (by kernel_rfl) (by kernel_rfl) (by kernel_rfl) rfl Ev.move ?_
      refine Any.p 9 rfl (by kernel_rfl) (by kernel_rfl) (by kernel_rfl) rfl (Ev.iaN sl.sl_bourseref04_field (hr := RAt.box (enc := RF.enc) (sz := 4) (hs := by omega))) ?_
      refine Any.p 10 rfl (by kernel_rfl) (by kernel_rfl) (by kernel_rfl) rfl (Ev.ldEA ag.bourseref04_field (hr := RAt.box (enc := RF.enc) (sz := 4) (hs := by omega))) ?_
      refine Any.two 0 11 rfl rfl (by kernel_rfl) ?_ ?_
      · -- first 0
        refine Seq.p rfl (Ev.ldBA ag.api_Event) ?_
        refine Seq.nil ⟨(by repeat (first | exact Part.refl _ | exact Part.nil _ | apply Part.here | apply Part.skip)), ?_⟩
        refine Any.one 11 rfl (by kernel_rfl) ?_
        refine Seq.callP rfl (fun w hw => refTaken hwi) ?_
        refine Seq.nil ⟨(by repeat (first | exact Part.refl _ | exact Part.nil _ | apply Part.here | apply Part.skip)), ?_⟩
        refine Any.one 12 rfl (by kernel_rfl) ?_
        refine Seq.callP rfl (fun w hw => refWithEvent) ?_
        refine Seq.nil ⟨(by repeat (first | exact Part.refl _ | exact Part.nil _ | apply Part.here | apply Part.skip)), ?_⟩
        refine Any.one 13 rfl (by kernel_rfl) ?_
        refine Seq.storeN [_, _, _, _, _, _, _, _, _, _, _, _, _] sz.api_Event (k := ?_)
        refine Seq.nil ⟨(by repeat (first | exact Part.refl _ | exact Part.nil _ | apply Part.here | apply Part.skip)), ?_⟩
        refine Any.done (by kernel_rfl) ?_
        refine JC.reg ?_
        refine Seq.p rfl Ev.move ?_
        refine Seq.p rfl (by first | exact Ev.inc | exact Ev.add) ?_
        refine Seq.p rfl Ev.assign ?_
        refine Seq.nil ?_
        exact ⟨i + 1, _, Part.refl _, ⟨Has.mk (by repeat (first | refine Off.upd ?_ rfl | exact Off.mix | refine Off.mix2 ?_ rfl | exact Off.refl)) (allLook_cons (by repeat (first | exact Look.here | apply Look.there (hne := rfl) | exact Look.const | apply Look.mix rfl | exact Look.arg0 | apply Look.args | exact Look.func)) allLook_nil), by rw [evTakeGo_snoc _ l _ i hi2]; rfl, by omega⟩, by omega⟩
      · -- first 11
        refine Seq.callP rfl (fun w hw => refTaken hwi) ?_
        refine Seq.nil ⟨(by repeat (first | exact Part.refl _ | exact Part.nil _ | apply Part.here | apply Part.skip)), ?_⟩
        refine Any.one 0 rfl (by kernel_rfl) ?_
        refine Seq.p rfl (Ev.ldBA ag.api_Event) ?_
        refine Seq.nil ⟨(by repeat (first | exact Part.refl _ | exact Part.nil _ | apply Part.here | apply Part.skip)), ?_⟩
        refine Any.one 12 rfl (by kernel_rfl) ?_
        refine Seq.callP rfl (fun w hw => refWithEvent) ?_
        refine Seq.nil ⟨(by repeat (first | exact Part.refl _ | exact Part.nil _ | apply Part.here | apply Part.skip)), ?_⟩
        refine Any.one 13 rfl (by kernel_rfl) ?_
        refine Seq.storeN [_, _, _, _, _, _, _, _, _, _, _, _, _] sz.api_Event (k := ?_)
        refine Seq.nil ⟨(by repeat (first | exact Part.refl _ | exact Part.nil _ | apply Part.here | apply Part.skip)), ?_⟩
        refine Any.done (by kernel_rfl) ?_
        refine JC.reg ?_
        refine Seq.p rfl Ev.move ?_
        refine Seq.p rfl (by first | exact Ev.inc | exact Ev.add) ?_
        refine Seq.p rfl Ev.assign ?_
        refine Seq.nil ?_
        exact ⟨i + 1, _, Part.refl _, ⟨Has.mk (by repeat (first | refine Off.upd ?_ rfl | exact Off.mix | refine Off.mix2 ?_ rfl | exact Off.refl)) (allLook_cons (by repeat (first | exact Look.here | apply Look.there (hne := rfl) | exact Look.const | apply Look.mix rfl | exact Look.arg0 | apply Look.args | exact Look.func)) allLook_nil), by rw [evTakeGo_snoc _ l _ i hi2]; rfl, by omega⟩, by omega⟩
    · -- else_t26
      obtain rfl : i = l.length := by omega
      rw [List.take_length, ← hxx]
      refine JC.exit ?_ -- 0
      refine JC.rs ?_
      refine Seq.p rfl (Ev.ldBA ag.api_Event) ?_
      refine Seq.callP rfl (fun w hw => hP ▸ refPackEv) ?_
      refine Seq.p rfl Ev.move ?_
      refine Seq.p rfl Ev.extract ?_
      refine Seq.p rfl Ev.extract ?_
      refine Seq.alloc (cs := [_, _, _, _, _, _, _, _]) (hz := z.api_Frame) (k := ?_); intro b7
      refine Seq.storeN [_, _, _, _, _, _, _, _] sz.api_Frame (k := ?_)
      refine Seq.p rfl Ev.assign ?_
      refine Seq.nil ?_
      refine JC.seq ?_
      refine JC.rs ?_
      refine Seq.p rfl Ev.move ?_
      refine Seq.p rfl Ev.ne ?_
      refine Seq.p rfl Ev.move ?_
      refine Seq.split (d := 49) (k := ?_)
      rintro (_|_) h49
      · try simp only [decide_eq_true_eq, decide_eq_false_iff_not] at h49
        refine Seq.gy rfl rfl rfl ?_
        refine Seq.p rfl (Ev.ldBA ag.api_Frame) ?_
        refine Seq.gy rfl rfl rfl ?_
        refine Seq.p rfl (Ev.ldBA ag.api_Frame) ?_
        refine Seq.gy rfl rfl rfl ?_
        refine Seq.p rfl (Ev.neAg so.api_Frame ag.api_Frame gd.api_Frame) ?_
        refine Seq.p rfl Ev.pickF ?_
        refine Seq.nil ?_
        first | refine JC.c (ht := fun c53 => ?_) (hf := fun c53 => ?_) | refine JC.cb (ht := fun c53 => ?_) (hf := fun c53 => ?_)
        · -- then_t53
          refine JC.rs ?_
          refine Seq.p rfl (Ev.buildN [_, _, _, _, _, _, _, _, _, _, _, _, _] pl.api_Event z.api_Event) ?_
          refine Seq.storeN [_, _, _, _, _, _, _, _, _, _, _, _, _] sz.api_Event (k := ?_)
          refine Seq.p rfl Ev.assign ?_
          refine Seq.nil ?_
          refine JC.ret ?_
          -- return 0
          show retQ _ _ _ _ _ _ _ _
          refine retB2 ag.api_Event (hp := Part.nil _) (hpost := ?_)
          have c54 : (!eqL (Frame.enc ⟨kk, [a0, a1, a2, a3, a4, a5, a6]⟩) (Frame.enc ⟨k, [g0, g1, g2, g3, g4, g5, g6]⟩)) = true := c53
          rw [Frame.eqL_enc] at c54
          have hne : ¬ ((⟨kk, [a0, a1, a2, a3, a4, a5, a6]⟩ : Frame) = ⟨k, [g0, g1, g2, g3, g4, g5, g6]⟩) := by intro he; rw [decide_eq_true he] at c54; cases c54
          rw [refUnpackEvF, if_neg hng, hF, hP, if_neg (fun h => hne h.2)]
          rfl
        · -- else_t53
          refine JC.skip ?_
          refine JC.rs ?_
          refine Seq.p rfl (Ev.ldBA ag.api_Event) ?_
          refine Seq.storeN [_, _, _, _, _, _, _, _, _, _, _, _, _] sz.api_Event (k := ?_)
          refine Seq.p rfl Ev.assign ?_
          refine Seq.nil ?_
          refine JC.ret ?_
          -- return 1
          show retQ _ _ _ _ _ _ _ _
          refine retB2 ag.api_Event (hp := Part.nil _) (hpost := ?_)
          have c54 : (!eqL (Frame.enc ⟨kk, [a0, a1, a2, a3, a4, a5, a6]⟩) (Frame.enc ⟨k, [g0, g1, g2, g3, g4, g5, g6]⟩)) = false := c53
          rw [Frame.eqL_enc] at c54
          have heq : ((⟨kk, [a0, a1, a2, a3, a4, a5, a6]⟩ : Frame) = ⟨k, [g0, g1, g2, g3, g4, g5, g6]⟩) := of_ndec c54
          rw [refUnpackEvF, if_neg hng, hF, hP, if_pos ⟨Classical.not_not.1 h49, heq⟩]
          rfl
      · try simp only [decide_eq_true_eq, decide_eq_false_iff_not] at h49
        refine Seq.gn rfl rfl rfl rfl ?_
        refine Seq.gn rfl rfl rfl rfl ?_
        refine Seq.gn rfl rfl rfl rfl ?_
        refine Seq.p rfl Ev.pickT ?_
        refine Seq.nil ?_
        refine JC.cT (h := ?_)
        refine JC.rs ?_
        refine Seq.p rfl (Ev.buildN [_, _, _, _, _, _, _, _, _, _, _, _, _] pl.api_Event z.api_Event) ?_
        refine Seq.storeN [_, _, _, _, _, _, _, _, _, _, _, _, _] sz.api_Event (k := ?_)
        refine Seq.p rfl Ev.assign ?_
        refine Seq.nil ?_
        refine JC.ret ?_
        -- return 2
        show retQ _ _ _ _ _ _ _ _
        refine retB2 ag.api_Event (hp := Part.nil _) (hpost := ?_)
        rw [refUnpackEvF, if_neg hng, hF, hP, if_neg (fun h => h49 h.1)]
        rfl
theorem refUnpackEv {w : World} {k g0 g1 g2 g3 g4 g5 g6 : Int} (hk8 : 0 ≤ k ∧ k ≤ 255) : Spec Go.Proofs.Try.prog 11 #[.agg (frV k g0 g1 g2 g3 g4 g5 g6).toArray] w [] (fun u _ => u = unpackEvV (refUnpackEvF ⟨k, [g0, g1, g2, g3, g4, g5, g6]⟩)) := by
  by_cases h : 1 ≤ k - 64 ∧ k - 64 ≤ 5
  · exact refUnpackEv1 hk8 h
  · exact refUnpackEv0 hk8 h
end Go.Rx
