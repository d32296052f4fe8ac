/- A part of the proof: the text E6. -/
import Derived.Test.YtdfleghechbcpaaE5
namespace Go.Rx
open Go Go.RowKit
set_option linter.unusedVariables false
set_option linter.unusedSimpArgs false
def evWordsM (ws : List Int) : List (Int × Int) :=
  [(34, ws[0]!), (11, ws[1]!), (37, ws[2]!), (41, ws[2]!), (1, andU ws[3]! 4294967295), (54, andU (down ws[3]! 32) 255), (40, andU (down ws[3]! 40) 255), (378, andU (down ws[3]! 48) 255), (44, andU ws[4]! 4294967295), (103, down ws[4]! 32), (38, ws[5]!), (210, ws[6]!)]
def unpackEvX (k : Int) (fs : List Fld) (ws : List Int) : Event := eventOfF (k - 64) (someF fs (evWordsM ws))
def unpackEvF (f : Frame) : Event × Int := match evFieldsF (ev0 (f.kind - 64)) with
  | none => (ev0 0, 41)
  | some fs => if (packEvF (unpackEvX f.kind fs f.words)).2 = 0 ∧ (packEvF (unpackEvX f.kind fs f.words)).1 = f then (unpackEvX f.kind fs f.words, 0) else (ev0 0, 40)
def unpackEvV (p : Event × Int) : Value := .tuple #[.agg p.1.enc.toArray, .int .i64 p.2]
theorem msgUnpackEvOf {w : World} {k : Int} {fs : List Fld} {bs : List Int} {vm : Value} (hm : RMp .i64 .u64 w [] vm (someF fs (evWordsM bs))) : Spec Go.Proofs.Try.prog 23 #[.int .i64 (k - 64), vm] w [] (fun u _ => u = .agg (unpackEvX k fs bs).enc.toArray) := msgEventOf hm
theorem packEvF_len (e : Event) : (packEvF e).1.words.length = 7 := by
  unfold packEvF
  split
  · split <;> rfl
  · rfl
set_option maxHeartbeats 4000000 in
set_option maxRecDepth 100000 in
theorem msgUnpackEv0 {w : World} {k g0 g1 g2 g3 g4 g5 g6 : Int} (hk8 : 0 ≤ k ∧ k ≤ 255) (hF : evFieldsF (ev0 (k - 64)) = none) : Spec Go.Proofs.Try.prog 10 #[.agg (frV k g0 g1 g2 g3 g4 g5 g6).toArray] w [] (fun u _ => u = unpackEvV (unpackEvF ⟨k, [g0, g1, g2, g3, g4, g5, g6]⟩)) := by
  have hU : unpackEvF ⟨k, [g0, g1, g2, g3, g4, g5, g6]⟩ = (ev0 0, 41) := by unfold unpackEvF; rw [hF]
  refine Spec.enter (fn := Go.Proofs.Try.f10) (n := 82) [.agg (frV k g0 g1 g2 g3 g4 g5 g6).toArray] Go.Proofs.Try.func10 (by kernel_rfl) rfl Go.Proofs.Try.ntmps10 Go.Proofs.Try.results10 rfl (Own.nil _) ?_
  refine JC.rs ?_
  refine Seq.box (cs := [_, _, _, _, _, _, _, _]) (k := ?_); intro b1
  refine Seq.alloc (cs := [_, _, _, _, _, _, _, _, _, _, _, _, _]) (hz := z.api_Event) (k := ?_); intro b2
  refine Seq.p rfl Ev.assign ?_
  refine Seq.nil ?_
  refine JC.rs ?_
  refine Seq.p rfl (Ev.faB fd.api_Frame_0) ?_
  refine Seq.p rfl (Ev.ldB sc.uint8) ?_
  refine Seq.p rfl (Ev.conv64 it.uint8 it.int) ?_
  refine Seq.p rfl Ev.sub ?_
  refine Seq.p rfl (Ev.buildN [_, _, _, _, _, _, _, _, _, _, _, _, _] pl.api_Event z.api_Event) ?_
  refine Seq.call rfl (fun w hw => hF ▸ msgEventFields (e := ev0 (k - 64))) (F := _) (by exact List.Perm.refl _) ?_
  rintro _ N rfl
  refine Seq.re (fun w h => h.part ⟨N, List.perm_append_comm⟩) ?_
  refine Seq.p rfl Ev.move ?_
  refine Seq.p rfl Ev.extract ?_
  refine Seq.p rfl Ev.extract ?_
  refine Seq.p rfl Ev.assign ?_
  refine Seq.p rfl Ev.assign ?_
  refine Seq.nil ?_
  refine JC.seq ?_
  refine JC.rs ?_
  refine Seq.p rfl Ev.move ?_
  refine Seq.p rfl Ev.not ?_
  refine Seq.nil ?_
  first | refine JC.c (ht := fun c21 => ?_) (hf := fun c21 => ?_) | refine JC.cb (ht := fun c21 => ?_) (hf := fun c21 => ?_)
  · -- then_t21
    refine JC.rs ?_
    refine Seq.p rfl (Ev.buildN [_, _, _, _, _, _, _, _, _, _, _, _, _] pl.api_Event z.api_Event) ?_
    refine Seq.storeN [_, _, _, _, _, _, _, _, _, _, _, _, _] sz.api_Event (k := ?_)
    refine Seq.p rfl Ev.assign ?_
    refine Seq.nil ?_
    refine JC.ret ?_
    -- return 0
    show retQ _ _ _ _ _ _ _ _
    refine retB2 ag.api_Event (hp := Part.nil _) (hpost := ?_)
    rw [hU]
    rfl
  · -- else_t21
    cases c21
set_option maxHeartbeats 4000000 in
set_option maxRecDepth 100000 in
theorem msgUnpackEv1 {w : World} {k g0 g1 g2 g3 g4 g5 g6 : Int} {fs : List Fld} (hk8 : 0 ≤ k ∧ k ≤ 255) (hF : evFieldsF (ev0 (k - 64)) = some fs) : Spec Go.Proofs.Try.prog 10 #[.agg (frV k g0 g1 g2 g3 g4 g5 g6).toArray] w [] (fun u _ => u = unpackEvV (unpackEvF ⟨k, [g0, g1, g2, g3, g4, g5, g6]⟩)) := by
  have hsm := (evFieldsF_small hF).1
  have hU : unpackEvF ⟨k, [g0, g1, g2, g3, g4, g5, g6]⟩ = if (packEvF (unpackEvX k fs [g0, g1, g2, g3, g4, g5, g6])).2 = 0 ∧ (packEvF (unpackEvX k fs [g0, g1, g2, g3, g4, g5, g6])).1 = ⟨k, [g0, g1, g2, g3, g4, g5, g6]⟩ then (unpackEvX k fs [g0, g1, g2, g3, g4, g5, g6], 0) else (ev0 0, 40) := by
    unfold unpackEvF
    rw [hF]
  generalize hx : unpackEvX k fs [g0, g1, g2, g3, g4, g5, g6] = x at hU
  obtain ⟨a0, a1, a2, a3, a4, a5, a6, h7⟩ := list7 (packEvF_len x)
  have hP : packEvF x = (⟨(packEvF x).1.kind, [a0, a1, a2, a3, a4, a5, a6]⟩, (packEvF x).2) := by rw [← h7]
  generalize hkk : (packEvF x).1.kind = kk at hP
  generalize hee : (packEvF x).2 = ee at hP
  rw [hP] at hU
  dsimp only at hU
  refine Spec.enter (fn := Go.Proofs.Try.f10) (n := 82) [.agg (frV k g0 g1 g2 g3 g4 g5 g6).toArray] Go.Proofs.Try.func10 (by kernel_rfl) rfl Go.Proofs.Try.ntmps10 Go.Proofs.Try.results10 rfl (Own.nil _) ?_
  refine JC.rs ?_
  refine Seq.box (cs := [_, _, _, _, _, _, _, _]) (k := ?_); intro b1
  refine Seq.alloc (cs := [_, _, _, _, _, _, _, _, _, _, _, _, _]) (hz := z.api_Event) (k := ?_); intro b2
  refine Seq.p rfl Ev.assign ?_
  refine Seq.nil ?_
  refine JC.rs ?_
  refine Seq.p rfl (Ev.faB fd.api_Frame_0) ?_
  refine Seq.p rfl (Ev.ldB sc.uint8) ?_
  refine Seq.p rfl (Ev.conv64 it.uint8 it.int) ?_
  refine Seq.p rfl Ev.sub ?_
  refine Seq.p rfl (Ev.buildN [_, _, _, _, _, _, _, _, _, _, _, _, _] pl.api_Event z.api_Event) ?_
  refine Seq.call rfl (fun w hw => hF ▸ msgEventFields (e := ev0 (k - 64))) (F := _) (by exact List.Perm.refl _) ?_
  rintro _ _ ⟨A, cc, rfl, rfl⟩
  refine Seq.p rfl Ev.move ?_
  refine Seq.p rfl Ev.extract ?_
  refine Seq.p rfl Ev.extract ?_
  refine Seq.p rfl Ev.assign ?_
  refine Seq.p rfl Ev.assign ?_
  refine Seq.nil ?_
  refine JC.seq ?_
  refine JC.rs ?_
  refine Seq.p rfl Ev.move ?_
  refine Seq.p rfl Ev.not ?_
  refine Seq.nil ?_
  first | refine JC.c (ht := fun c21 => ?_) (hf := fun c21 => ?_) | refine JC.cb (ht := fun c21 => ?_) (hf := fun c21 => ?_)
  · -- then_t21
    cases c21
  · -- else_t21
    refine JC.skip ?_
    refine JC.rs ?_
    refine Seq.p rfl (Ev.faB fd.api_Frame_1) ?_
    refine Seq.p rfl (Ev.ldBPN [_, _, _, _, _, _, _] ag.a7_uint64) ?_
    refine Seq.alloc (cs := [_, _, _, _, _, _, _]) (hz := z.a7_uint64) (k := ?_); intro b6
    refine Seq.storeN [_, _, _, _, _, _, _] sz.a7_uint64 (k := ?_)
    refine Seq.nil ?_
    refine JC.rs ?_
    refine Seq.mkMapI .i64 .u64 (k := ?_); intro b25
    refine Seq.p rfl (Ev.iaArrB ar.a7_uint64) ?_
    refine Seq.p rfl (Ev.ldB sc.uint64) ?_
    refine Seq.mapInsI mp.m_int_uint64 (kk' := ?_)
    refine Seq.p rfl (Ev.iaArrB ar.a7_uint64) ?_
    refine Seq.p rfl (Ev.ldB sc.uint64) ?_
    refine Seq.mapInsI mp.m_int_uint64 (kk' := ?_)
    refine Seq.p rfl (Ev.iaArrB ar.a7_uint64) ?_
    refine Seq.p rfl (Ev.ldB sc.uint64) ?_
    refine Seq.mapInsI mp.m_int_uint64 (kk' := ?_)
    refine Seq.p rfl (Ev.iaArrB ar.a7_uint64) ?_
    refine Seq.p rfl (Ev.ldB sc.uint64) ?_
    refine Seq.mapInsI mp.m_int_uint64 (kk' := ?_)
    refine Seq.p rfl (Ev.iaArrB ar.a7_uint64) ?_
    refine Seq.p rfl (Ev.ldB sc.uint64) ?_
    refine Seq.p rfl (Ev.bits (k := .u64) (· &&& ·) (.inl ⟨rfl, rfl⟩)) ?_
    refine Seq.mapInsI mp.m_int_uint64 (kk' := ?_)
    refine Seq.p rfl (Ev.iaArrB ar.a7_uint64) ?_
    refine Seq.p rfl (Ev.ldB sc.uint64) ?_
    refine Seq.p rfl Ev.shrW ?_
    refine Seq.p rfl (Ev.bits (k := .u64) (· &&& ·) (.inl ⟨rfl, rfl⟩)) ?_
    refine Seq.mapInsI mp.m_int_uint64 (kk' := ?_)
    refine Seq.p rfl (Ev.iaArrB ar.a7_uint64) ?_
    refine Seq.p rfl (Ev.ldB sc.uint64) ?_
    refine Seq.p rfl Ev.shrW ?_
    refine Seq.p rfl (Ev.bits (k := .u64) (· &&& ·) (.inl ⟨rfl, rfl⟩)) ?_
    refine Seq.mapInsI mp.m_int_uint64 (kk' := ?_)
    refine Seq.p rfl (Ev.iaArrB ar.a7_uint64) ?_
    refine Seq.p rfl (Ev.ldB sc.uint64) ?_
    refine Seq.p rfl Ev.shrW ?_
    refine Seq.p rfl (Ev.bits (k := .u64) (· &&& ·) (.inl ⟨rfl, rfl⟩)) ?_
    refine Seq.mapInsI mp.m_int_uint64 (kk' := ?_)
    refine Seq.p rfl (Ev.iaArrB ar.a7_uint64) ?_
    refine Seq.p rfl (Ev.ldB sc.uint64) ?_
    refine Seq.p rfl (Ev.bits (k := .u64) (· &&& ·) (.inl ⟨rfl, rfl⟩)) ?_
    refine Seq.mapInsI mp.m_int_uint64 (kk' := ?_)
    refine Seq.p rfl (Ev.iaArrB ar.a7_uint64) ?_
    refine Seq.p rfl (Ev.ldB sc.uint64) ?_
    refine Seq.p rfl Ev.shrW ?_
    refine Seq.mapInsI mp.m_int_uint64 (kk' := ?_)
    refine Seq.p rfl (Ev.iaArrB ar.a7_uint64) ?_
    refine Seq.p rfl (Ev.ldB sc.uint64) ?_
    refine Seq.mapInsI mp.m_int_uint64 (kk' := ?_)
    refine Seq.p rfl (Ev.iaArrB ar.a7_uint64) ?_
    refine Seq.p rfl (Ev.ldB sc.uint64) ?_
    refine Seq.mapInsI mp.m_int_uint64 (kk' := ?_)
    refine Seq.p rfl Ev.move ?_
    refine Seq.p rfl Ev.assign ?_
    refine Seq.nil ?_
    refine JC.as mixed ?_
    refine Any.p 0 rfl (by kernel_rfl) (by kernel_rfl) (by kernel_rfl) rfl (Ev.faB fd.api_Frame_0) ?_
    refine Any.p 1 rfl (by kernel_rfl) (by kernel_rfl) (by kernel_rfl) rfl (Ev.ldB sc.uint8) ?_
    refine Any.p 2 rfl (by kernel_rfl) (by kernel_rfl) (by kernel_rfl) rfl (Ev.conv64 it.uint8 it.int) ?_
    refine Any.p 3 rfl (by kernel_rfl) (by kernel_rfl) (by kernel_rfl) rfl Ev.sub ?_
    refine Any.p 4 rfl (by kernel_rfl) (by kernel_rfl) (by kernel_rfl) rfl Ev.move ?_
    refine Any.p 5 rfl (by kernel_rfl) (by kernel_rfl) (by kernel_rfl) rfl Ev.move ?_
    refine Any.two 6 8 rfl rfl (by kernel_rfl) ?_ ?_
    · -- first 6
      refine Seq.call rfl (fun w hw => msgSome (m := evWordsM [g0, g1, g2, g3, g4, g5, g6]) (RAt.up (RAt.own (enc := Fld.enc) (xs := fs) (sz := 3) (hs := by omega)) hw) (RM.up RM.own hw)) (F := _) (by exact List.Perm.refl _) ?_
      rintro _ _ ⟨bm, rfl, rfl⟩
      refine Seq.nil ⟨(by repeat (first | exact Part.refl _ | exact Part.nil _ | apply Part.here | apply Part.skip)), ?_⟩
      refine Any.two 7 8 rfl rfl (by kernel_rfl) ?_ ?_
      · -- first 7
        refine Seq.callP rfl (fun w hw => hx ▸ msgUnpackEvOf (bs := [g0, g1, g2, g3, g4, g5, g6]) (RM.up RM.own hw)) ?_
        refine Seq.nil ⟨(by repeat (first | exact Part.refl _ | exact Part.nil _ | apply Part.here | apply Part.skip)), ?_⟩
        refine Any.one 8 rfl (by kernel_rfl) ?_
        refine Seq.alloc (cs := [_, _, _, _, _, _, _, _, _, _, _, _, _]) (hz := z.api_Event) (k := ?_); intro b8
        refine Seq.nil ⟨(by repeat (first | exact Part.refl _ | exact Part.nil _ | apply Part.here | apply Part.skip)), ?_⟩
        refine Any.one 9 rfl (by kernel_rfl) ?_
        refine Seq.storeN [_, _, _, _, _, _, _, _, _, _, _, _, _] sz.api_Event (k := ?_)
        refine Seq.nil ⟨(by repeat (first | exact Part.refl _ | exact Part.nil _ | apply Part.here | apply Part.skip)), ?_⟩
        refine Any.done (by kernel_rfl) ?_
        refine JC.seq ?_
        refine JC.rs ?_
        refine Seq.p rfl (Ev.ldBA ag.api_Event) ?_
        refine Seq.callP rfl (fun w hw => hP ▸ msgPackEv) ?_
        refine Seq.p rfl Ev.move ?_
        refine Seq.p rfl Ev.extract ?_
        refine Seq.p rfl Ev.extract ?_
        refine Seq.alloc (cs := [_, _, _, _, _, _, _, _]) (hz := z.api_Frame) (k := ?_); intro b9
        refine Seq.storeN [_, _, _, _, _, _, _, _] sz.api_Frame (k := ?_)
        refine Seq.p rfl Ev.assign ?_
        refine Seq.nil ?_
        refine JC.rs ?_
        refine Seq.p rfl Ev.move ?_
        refine Seq.p rfl Ev.ne ?_
        refine Seq.p rfl Ev.move ?_
        refine Seq.split (d := 75) (k := ?_)
        rintro (_|_) h75
        · try simp only [decide_eq_true_eq, decide_eq_false_iff_not] at h75
          refine Seq.gy rfl rfl rfl ?_
          refine Seq.p rfl (Ev.ldBA ag.api_Frame) ?_
          refine Seq.gy rfl rfl rfl ?_
          refine Seq.p rfl (Ev.ldBA ag.api_Frame) ?_
          refine Seq.gy rfl rfl rfl ?_
          refine Seq.p rfl (Ev.neAg so.api_Frame ag.api_Frame gd.api_Frame) ?_
          refine Seq.p rfl Ev.pickF ?_
          refine Seq.nil ?_
          first | refine JC.c (ht := fun c79 => ?_) (hf := fun c79 => ?_) | refine JC.cb (ht := fun c79 => ?_) (hf := fun c79 => ?_)
          · -- then_t79
            refine JC.rs ?_
            refine Seq.p rfl (Ev.buildN [_, _, _, _, _, _, _, _, _, _, _, _, _] pl.api_Event z.api_Event) ?_
            refine Seq.storeN [_, _, _, _, _, _, _, _, _, _, _, _, _] sz.api_Event (k := ?_)
            refine Seq.p rfl Ev.assign ?_
            refine Seq.nil ?_
            refine JC.ret ?_
            -- return 0
            show retQ _ _ _ _ _ _ _ _
            refine retB2 ag.api_Event (hp := Part.nil _) (hpost := ?_)
            have c80 : (!eqL (Frame.enc ⟨kk, [a0, a1, a2, a3, a4, a5, a6]⟩) (Frame.enc ⟨k, [g0, g1, g2, g3, g4, g5, g6]⟩)) = true := c79
            rw [Frame.eqL_enc] at c80
            have hne : ¬ ((⟨kk, [a0, a1, a2, a3, a4, a5, a6]⟩ : Frame) = ⟨k, [g0, g1, g2, g3, g4, g5, g6]⟩) := by intro he; rw [decide_eq_true he] at c80; cases c80
            rw [hU, if_neg (fun h => hne h.2)]
            rfl
          · -- else_t79
            refine JC.skip ?_
            refine JC.rs ?_
            refine Seq.p rfl (Ev.ldBA ag.api_Event) ?_
            refine Seq.storeN [_, _, _, _, _, _, _, _, _, _, _, _, _] sz.api_Event (k := ?_)
            refine Seq.p rfl Ev.assign ?_
            refine Seq.nil ?_
            refine JC.ret ?_
            -- return 1
            show retQ _ _ _ _ _ _ _ _
            refine retB2 ag.api_Event (hp := Part.nil _) (hpost := ?_)
            have c80 : (!eqL (Frame.enc ⟨kk, [a0, a1, a2, a3, a4, a5, a6]⟩) (Frame.enc ⟨k, [g0, g1, g2, g3, g4, g5, g6]⟩)) = false := c79
            rw [Frame.eqL_enc] at c80
            have heq : ((⟨kk, [a0, a1, a2, a3, a4, a5, a6]⟩ : Frame) = ⟨k, [g0, g1, g2, g3, g4, g5, g6]⟩) := of_ndec c80
            rw [hU, if_pos ⟨Classical.not_not.1 h75, heq⟩]
            rfl
        · try simp only [decide_eq_true_eq, decide_eq_false_iff_not] at h75
          refine Seq.gn rfl rfl rfl rfl ?_
          refine Seq.gn rfl rfl rfl rfl ?_
          refine Seq.gn rfl rfl rfl rfl ?_
          refine Seq.p rfl Ev.pickT ?_
          refine Seq.nil ?_
          refine JC.cT (h := ?_)
          refine JC.rs ?_
          refine Seq.p rfl (Ev.buildN [_, _, _, _, _, _, _, _, _, _, _, _, _] pl.api_Event z.api_Event) ?_
          refine Seq.storeN [_, _, _, _, _, _, _, _, _, _, _, _, _] sz.api_Event (k := ?_)
          refine Seq.p rfl Ev.assign ?_
          refine Seq.nil ?_
          refine JC.ret ?_
          -- return 2
          show retQ _ _ _ _ _ _ _ _
          refine retB2 ag.api_Event (hp := Part.nil _) (hpost := ?_)
          rw [hU, if_neg (fun h => h75 h.1)]
          rfl
      · -- first 8
        refine Seq.alloc (cs := [_, _, _, _, _, _, _, _, _, _, _, _, _]) (hz := z.api_Event) (k := ?_); intro b8
        refine Seq.nil ⟨(by repeat (first | exact Part.refl _ | exact Part.nil _ | apply Part.here | apply Part.skip)), ?_⟩
        refine Any.one 7 rfl (by kernel_rfl) ?_
        refine Seq.callP rfl (fun w hw => hx ▸ msgUnpackEvOf (bs := [g0, g1, g2, g3, g4, g5, g6]) (RM.up RM.own hw)) ?_
        refine Seq.nil ⟨(by repeat (first | exact Part.refl _ | exact Part.nil _ | apply Part.here | apply Part.skip)), ?_⟩
        refine Any.one 9 rfl (by kernel_rfl) ?_
        refine Seq.storeN [_, _, _, _, _, _, _, _, _, _, _, _, _] sz.api_Event (k := ?_)
        refine Seq.nil ⟨(by repeat (first | exact Part.refl _ | exact Part.nil _ | apply Part.here | apply Part.skip)), ?_⟩
        refine Any.done (by kernel_rfl) ?_
        refine JC.seq ?_
        refine JC.rs ?_
        refine Seq.p rfl (Ev.ldBA ag.api_Event) ?_
        refine Seq.callP rfl (fun w hw => hP ▸ msgPackEv) ?_
        refine Seq.p rfl Ev.move ?_
        refine Seq.p rfl Ev.extract ?_
        refine Seq.p rfl Ev.extract ?_
        refine Seq.alloc (cs := [_, _, _, _, _, _, _, _]) (hz := z.api_Frame) (k := ?_); intro b9
        refine Seq.storeN [_, _, _, _, _, _, _, _] sz.api_Frame (k := ?_)
        refine Seq.p rfl Ev.assign ?_
        refine Seq.nil ?_
        refine JC.rs ?_
        refine Seq.p rfl Ev.move ?_
        refine Seq.p rfl Ev.ne ?_
        refine Seq.p rfl Ev.move ?_
        refine Seq.split (d := 75) (k := ?_)
        rintro (_|_) h75
        · try simp only [decide_eq_true_eq, decide_eq_false_iff_not] at h75
          refine Seq.gy rfl rfl rfl ?_
          refine Seq.p rfl (Ev.ldBA ag.api_Frame) ?_
          refine Seq.gy rfl rfl rfl ?_
          refine Seq.p rfl (Ev.ldBA ag.api_Frame) ?_
          refine Seq.gy rfl rfl rfl ?_
          refine Seq.p rfl (Ev.neAg so.api_Frame ag.api_Frame gd.api_Frame) ?_
          refine Seq.p rfl Ev.pickF ?_
          refine Seq.nil ?_
          first | refine JC.c (ht := fun c79 => ?_) (hf := fun c79 => ?_) | refine JC.cb (ht := fun c79 => ?_) (hf := fun c79 => ?_)
          · -- then_t79
            refine JC.rs ?_
            refine Seq.p rfl (Ev.buildN [_, _, _, _, _, _, _, _, _, _, _, _, _] pl.api_Event z.api_Event) ?_
            refine Seq.storeN [_, _, _, _, _, _, _, _, _, _, _, _, _] sz.api_Event (k := ?_)
            refine Seq.p rfl Ev.assign ?_
            refine Seq.nil ?_
            refine JC.ret ?_
            -- return 3
            show retQ _ _ _ _ _ _ _ _
            refine retB2 ag.api_Event (hp := Part.nil _) (hpost := ?_)
            have c80 : (!eqL (Frame.enc ⟨kk, [a0, a1, a2, a3, a4, a5, a6]⟩) (Frame.enc ⟨k, [g0, g1, g2, g3, g4, g5, g6]⟩)) = true := c79
            rw [Frame.eqL_enc] at c80
            have hne : ¬ ((⟨kk, [a0, a1, a2, a3, a4, a5, a6]⟩ : Frame) = ⟨k, [g0, g1, g2, g3, g4, g5, g6]⟩) := by intro he; rw [decide_eq_true he] at c80; cases c80
            rw [hU, if_neg (fun h => hne h.2)]
            rfl
          · -- else_t79
            refine JC.skip ?_
            refine JC.rs ?_
            refine Seq.p rfl (Ev.ldBA ag.api_Event) ?_
            refine Seq.storeN [_, _, _, _, _, _, _, _, _, _, _, _, _] sz.api_Event (k := ?_)
            refine Seq.p rfl Ev.assign ?_
            refine Seq.nil ?_
            refine JC.ret ?_
            -- return 4
            show retQ _ _ _ _ _ _ _ _
            refine retB2 ag.api_Event (hp := Part.nil _) (hpost := ?_)
            have c80 : (!eqL (Frame.enc ⟨kk, [a0, a1, a2, a3, a4, a5, a6]⟩) (Frame.enc ⟨k, [g0, g1, g2, g3, g4, g5, g6]⟩)) = false := c79
            rw [Frame.eqL_enc] at c80
            have heq : ((⟨kk, [a0, a1, a2, a3, a4, a5, a6]⟩ : Frame) = ⟨k, [g0, g1, g2, g3, g4, g5, g6]⟩) := of_ndec c80
            rw [hU, if_pos ⟨Classical.not_not.1 h75, heq⟩]
            rfl
        · try simp only [decide_eq_true_eq, decide_eq_false_iff_not] at h75
          refine Seq.gn rfl rfl rfl rfl ?_
          refine Seq.gn rfl rfl rfl rfl ?_
          refine Seq.gn rfl rfl rfl rfl ?_
          refine Seq.p rfl Ev.pickT ?_
          refine Seq.nil ?_
          refine JC.cT (h := ?_)
          refine JC.rs ?_
          refine Seq.p rfl (Ev.buildN [_, _, _, _, _, _, _, _, _, _, _, _, _] pl.api_Event z.api_Event) ?_
          refine Seq.storeN [_, _, _, _, _, _, _, _, _, _, _, _, _] sz.api_Event (k := ?_)
          refine Seq.p rfl Ev.assign ?_
          refine Seq.nil ?_
          refine JC.ret ?_
          -- return 5
          show retQ _ _ _ _ _ _ _ _
          refine retB2 ag.api_Event (hp := Part.nil _) (hpost := ?_)
          rw [hU, if_neg (fun h => h75 h.1)]
          rfl
    · -- first 8
      refine Seq.alloc (cs := [_, _, _, _, _, _, _, _, _, _, _, _, _]) (hz := z.api_Event) (k := ?_); intro b8
      refine Seq.nil ⟨(by repeat (first | exact Part.refl _ | exact Part.nil _ | apply Part.here | apply Part.skip)), ?_⟩
      refine Any.one 6 rfl (by kernel_rfl) ?_
      refine Seq.call rfl (fun w hw => msgSome (m := evWordsM [g0, g1, g2, g3, g4, g5, g6]) (RAt.up (RAt.own (enc := Fld.enc) (xs := fs) (sz := 3) (hs := by omega)) hw) (RM.up RM.own hw)) (F := _) (by exact List.Perm.refl _) ?_
      rintro _ _ ⟨bm, rfl, rfl⟩
      refine Seq.nil ⟨(by repeat (first | exact Part.refl _ | exact Part.nil _ | apply Part.here | apply Part.skip)), ?_⟩
      refine Any.one 7 rfl (by kernel_rfl) ?_
      refine Seq.callP rfl (fun w hw => hx ▸ msgUnpackEvOf (bs := [g0, g1, g2, g3, g4, g5, g6]) (RM.up RM.own hw)) ?_
      refine Seq.nil ⟨(by repeat (first | exact Part.refl _ | exact Part.nil _ | apply Part.here | apply Part.skip)), ?_⟩
      refine Any.one 9 rfl (by kernel_rfl) ?_
      refine Seq.storeN [_, _, _, _, _, _, _, _, _, _, _, _, _] sz.api_Event (k := ?_)
      refine Seq.nil ⟨(by repeat (first | exact Part.refl _ | exact Part.nil _ | apply Part.here | apply Part.skip)), ?_⟩
      refine Any.done (by kernel_rfl) ?_
      refine JC.seq ?_
      refine JC.rs ?_
      refine Seq.p rfl (Ev.ldBA ag.api_Event) ?_
      refine Seq.callP rfl (fun w hw => hP ▸ msgPackEv) ?_
      refine Seq.p rfl Ev.move ?_
      refine Seq.p rfl Ev.extract ?_
      refine Seq.p rfl Ev.extract ?_
      refine Seq.alloc (cs := [_, _, _, _, _, _, _, _]) (hz := z.api_Frame) (k := ?_); intro b9
      refine Seq.storeN [_, _, _, _, _, _, _, _] sz.api_Frame (k := ?_)
      refine Seq.p rfl Ev.assign ?_
      refine Seq.nil ?_
      refine JC.rs ?_
      refine Seq.p rfl Ev.move ?_
      refine Seq.p rfl Ev.ne ?_
      refine Seq.p rfl Ev.move ?_
      refine Seq.split (d := 75) (k := ?_)
      rintro (_|_) h75
      · try simp only [decide_eq_true_eq, decide_eq_false_iff_not] at h75
        refine Seq.gy rfl rfl rfl ?_
        refine Seq.p rfl (Ev.ldBA ag.api_Frame) ?_
        refine Seq.gy rfl rfl rfl ?_
        refine Seq.p rfl (Ev.ldBA ag.api_Frame) ?_
        refine Seq.gy rfl rfl rfl ?_
        refine Seq.p rfl (Ev.neAg so.api_Frame ag.api_Frame gd.api_Frame) ?_
        refine Seq.p rfl Ev.pickF ?_
        refine Seq.nil ?_
        first | refine JC.c (ht := fun c79 => ?_) (hf := fun c79 => ?_) | refine JC.cb (ht := fun c79 => ?_) (hf := fun c79 => ?_)
        · -- then_t79
          refine JC.rs ?_
          refine Seq.p rfl (Ev.buildN [_, _, _, _, _, _, _, _, _, _, _, _, _] pl.api_Event z.api_Event) ?_
          refine Seq.storeN [_, _, _, _, _, _, _, _, _, _, _, _, _] sz.api_Event (k := ?_)
          refine Seq.p rfl Ev.assign ?_
          refine Seq.nil ?_
          refine JC.ret ?_
          -- return 6
          show retQ _ _ _ _ _ _ _ _
          refine retB2 ag.api_Event (hp := Part.nil _) (hpost := ?_)
          have c80 : (!eqL (Frame.enc ⟨kk, [a0, a1, a2, a3, a4, a5, a6]⟩) (Frame.enc ⟨k, [g0, g1, g2, g3, g4, g5, g6]⟩)) = true := c79
          rw [Frame.eqL_enc] at c80
          have hne : ¬ ((⟨kk, [a0, a1, a2, a3, a4, a5, a6]⟩ : Frame) = ⟨k, [g0, g1, g2, g3, g4, g5, g6]⟩) := by intro he; rw [decide_eq_true he] at c80; cases c80
          rw [hU, if_neg (fun h => hne h.2)]
          rfl
        · -- else_t79
          refine JC.skip ?_
          refine JC.rs ?_
          refine Seq.p rfl (Ev.ldBA ag.api_Event) ?_
          refine Seq.storeN [_, _, _, _, _, _, _, _, _, _, _, _, _] sz.api_Event (k := ?_)
          refine Seq.p rfl Ev.assign ?_
          refine Seq.nil ?_
          refine JC.ret ?_
          -- return 7
          show retQ _ _ _ _ _ _ _ _
          refine retB2 ag.api_Event (hp := Part.nil _) (hpost := ?_)
          have c80 : (!eqL (Frame.enc ⟨kk, [a0, a1, a2, a3, a4, a5, a6]⟩) (Frame.enc ⟨k, [g0, g1, g2, g3, g4, g5, g6]⟩)) = false := c79
          rw [Frame.eqL_enc] at c80
          have heq : ((⟨kk, [a0, a1, a2, a3, a4, a5, a6]⟩ : Frame) = ⟨k, [g0, g1, g2, g3, g4, g5, g6]⟩) := of_ndec c80
          rw [hU, if_pos ⟨Classical.not_not.1 h75, heq⟩]
          rfl
      · try simp only [decide_eq_true_eq, decide_eq_false_iff_not] at h75
        refine Seq.gn rfl rfl rfl rfl ?_
        refine Seq.gn rfl rfl rfl rfl ?_
        refine Seq.gn rfl rfl rfl rfl ?_
        refine Seq.p rfl Ev.pickT ?_
        refine Seq.nil ?_
        refine JC.cT (h := ?_)
        refine JC.rs ?_
        refine Seq.p rfl (Ev.buildN [_, _, _, _, _, _, _, _, _, _, _, _, _] pl.api_Event z.api_Event) ?_
        refine Seq.storeN [_, _, _, _, _, _, _, _, _, _, _, _, _] sz.api_Event (k := ?_)
        refine Seq.p rfl Ev.assign ?_
        refine Seq.nil ?_
        refine JC.ret ?_
        -- return 8
        show retQ _ _ _ _ _ _ _ _
        refine retB2 ag.api_Event (hp := Part.nil _) (hpost := ?_)
        rw [hU, if_neg (fun h => h75 h.1)]
        rfl
theorem msgUnpackEv {w : World} {k g0 g1 g2 g3 g4 g5 g6 : Int} (hk8 : 0 ≤ k ∧ k ≤ 255) : Spec Go.Proofs.Try.prog 10 #[.agg (frV k g0 g1 g2 g3 g4 g5 g6).toArray] w [] (fun u _ => u = unpackEvV (unpackEvF ⟨k, [g0, g1, g2, g3, g4, g5, g6]⟩)) := by
  rcases hF : evFieldsF (ev0 (k - 64)) with _ | fs
  · exact msgUnpackEv0 hk8 hF
  · exact msgUnpackEv1 hk8 hF
end Go.Rx
