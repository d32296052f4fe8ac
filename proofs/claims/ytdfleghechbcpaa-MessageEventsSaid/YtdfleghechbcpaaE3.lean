/- A part of the proof: the text E3. -/
import Derived.Test.YtdfleghechbcpaaE2
namespace Go.Rx
open Go Go.RowKit
set_option linter.unusedVariables false
set_option linter.unusedSimpArgs false
def toldEvE (e : Event) : Int := match evFieldsF e with | none => 41 | some fs => if fs.all (·.fits) = true ∧ eventOfF e.kind (numsF fs) = e then 0 else 40
def EvToldPost (e : Event) (u : Value) (N : List Chunk) : Prop :=
  if toldEvE e = 0 then ∃ fs A c b, evFieldsF e = some fs ∧ u = .tuple #[.slice A fs.length c, .map (some b), .int .i64 0] ∧ N = [.mi b .i64 .u64 (numsF fs), .own 79 3 (.slice A fs.length c) fs.length (fs.flatMap Fld.enc)]
  else u = .tuple #[.slice none 0 0, .map none, .int .i64 (toldEvE e)]
theorem evFieldsF_small {e : Event} {fs : List Fld} (h : evFieldsF e = some fs) : fs.length ≤ 8 ∧ 1 ≤ e.kind ∧ e.kind ≤ 5 := by
  unfold evFieldsF at h
  repeat (first | (split at h) | (simp only [Option.some.injEq] at h; subst h; exact ⟨Nat.le_of_ble_eq_true rfl, by omega, by omega⟩) | cases h)
set_option maxHeartbeats 2000000 in
theorem msgToldEv0 {w : World} {e : Event} (hF : evFieldsF e = none) : Spec Go.Proofs.Try.prog 19 #[.agg e.enc.toArray] w [] (EvToldPost e) := by
  have hE : toldEvE e = 41 := by unfold toldEvE; rw [hF]
  refine Spec.enter (fn := Go.Proofs.Try.f19) (n := 32) [.agg e.enc.toArray] Go.Proofs.Try.func19 (by kernel_rfl) rfl Go.Proofs.Try.ntmps19 Go.Proofs.Try.results19 rfl (Own.nil _) ?_
  refine JC.rs ?_
  refine Seq.box (cs := [_, _, _, _, _, _, _, _, _, _, _, _, _]) (k := ?_); intro b1
  refine Seq.p rfl Ev.assign ?_
  refine Seq.p rfl Ev.assign ?_
  refine Seq.p rfl Ev.assign ?_
  refine Seq.nil ?_
  refine JC.rs ?_
  refine Seq.p rfl (Ev.ldBA ag.api_Event) ?_
  refine Seq.call rfl (fun w hw => hF ▸ msgEventFields) (F := _) (by exact List.Perm.refl _) ?_
  rintro _ N rfl
  refine Seq.p rfl Ev.move ?_
  refine Seq.p rfl Ev.extract ?_
  refine Seq.p rfl Ev.extract ?_
  refine Seq.p rfl Ev.assign ?_
  refine Seq.p rfl Ev.assign ?_
  refine Seq.nil ?_
  refine JC.seq ?_
  refine JC.rs ?_
  refine Seq.p rfl Ev.move ?_
  refine Seq.p rfl Ev.not ?_
  refine Seq.nil ?_
  first | refine JC.c (ht := fun c14 => ?_) (hf := fun c14 => ?_) | refine JC.cb (ht := fun c14 => ?_) (hf := fun c14 => ?_)
  · -- then_t14
    refine JC.rs ?_
    refine Seq.p rfl Ev.assign ?_
    refine Seq.p rfl Ev.assign ?_
    refine Seq.p rfl Ev.assign ?_
    refine Seq.nil ?_
    refine JC.ret ?_
    -- return 0
    show retQ _ _ _ _ _ _ _ _
    refine ret3 (hp := Part.nil _) (hpost := ?_)
    show EvToldPost _ _ _
    rw [EvToldPost, if_neg (by rw [hE]; decide), hE]
  · -- else_t14
    cases c14
set_option maxHeartbeats 2000000 in
theorem msgToldEv1 {w : World} {e : Event} {fs : List Fld} (hF : evFieldsF e = some fs) (hn : ¬ fs.all (·.fits) = true) : Spec Go.Proofs.Try.prog 19 #[.agg e.enc.toArray] w [] (EvToldPost e) := by
  have hE : toldEvE e = 40 := by unfold toldEvE; rw [hF]; exact if_neg (fun h => hn h.1)
  have hsm := (evFieldsF_small hF).1
  refine Spec.enter (fn := Go.Proofs.Try.f19) (n := 32) [.agg e.enc.toArray] Go.Proofs.Try.func19 (by kernel_rfl) rfl Go.Proofs.Try.ntmps19 Go.Proofs.Try.results19 rfl (Own.nil _) ?_
  refine JC.rs ?_
  refine Seq.box (cs := [_, _, _, _, _, _, _, _, _, _, _, _, _]) (k := ?_); intro b1
  refine Seq.p rfl Ev.assign ?_
  refine Seq.p rfl Ev.assign ?_
  refine Seq.p rfl Ev.assign ?_
  refine Seq.nil ?_
  refine JC.rs ?_
  refine Seq.p rfl (Ev.ldBA ag.api_Event) ?_
  refine Seq.call rfl (fun w hw => hF ▸ msgEventFields) (F := _) (by exact List.Perm.refl _) ?_
  rintro _ _ ⟨A, cc, rfl, rfl⟩
  refine Seq.p rfl Ev.move ?_
  refine Seq.p rfl Ev.extract ?_
  refine Seq.p rfl Ev.extract ?_
  refine Seq.p rfl Ev.assign ?_
  refine Seq.p rfl Ev.assign ?_
  refine Seq.nil ?_
  refine JC.seq ?_
  refine JC.rs ?_
  refine Seq.p rfl Ev.move ?_
  refine Seq.p rfl Ev.not ?_
  refine Seq.nil ?_
  first | refine JC.c (ht := fun c14 => ?_) (hf := fun c14 => ?_) | refine JC.cb (ht := fun c14 => ?_) (hf := fun c14 => ?_)
  · -- then_t14
    cases c14
  · -- else_t14
    refine JC.skip ?_
    refine JC.rs ?_
    refine Seq.p rfl Ev.move ?_
    refine Seq.call rfl (fun w hw => msgNumbers (RAt.up (RAt.own (enc := Fld.enc) (xs := fs) (sz := 3) (hs := by omega)) hw)) (F := _) (by exact List.Perm.refl _) ?_
    intro u N hN
    rw [NumsPost, if_neg hn] at hN
    subst hN
    refine Seq.p rfl Ev.move ?_
    refine Seq.p rfl Ev.extract ?_
    refine Seq.p rfl Ev.extract ?_
    refine Seq.p rfl Ev.assign ?_
    refine Seq.p rfl Ev.assign ?_
    refine Seq.nil ?_
    refine JC.seq ?_
    refine JC.qs mixed (by kernel_rfl) ?_
    refine Qui.p rfl Ev.move ?_
    refine Qui.p rfl Ev.not ?_
    refine Qui.p rfl Ev.move ?_
    refine Qui.split (d := 22) (k := ?_)
    rintro (_|_) h22
    · try simp only [decide_eq_true_eq, decide_eq_false_iff_not] at h22
      cases h22
    · try simp only [decide_eq_true_eq, decide_eq_false_iff_not] at h22
      refine Qui.gn rfl rfl rfl rfl ?_
      refine Qui.gn rfl rfl rfl rfl ?_
      refine Qui.gn rfl rfl rfl rfl ?_
      refine Qui.gn rfl rfl rfl rfl ?_
      refine Qui.gn rfl rfl rfl rfl ?_
      refine Qui.gn rfl rfl rfl rfl ?_
      refine Qui.p rfl Ev.pickT ?_
      refine Qui.nil ?_
      refine JC.cT (h := ?_)
      refine JC.rs ?_
      refine Seq.p rfl Ev.assign ?_
      refine Seq.p rfl Ev.assign ?_
      refine Seq.p rfl Ev.assign ?_
      refine Seq.nil ?_
      refine JC.ret ?_
      -- return 0
      show retQ _ _ _ _ _ _ _ _
      refine ret3 (hp := Part.nil _) (hpost := ?_)
      show EvToldPost _ _ _
      rw [EvToldPost, if_neg (by rw [hE]; decide), hE]
set_option maxHeartbeats 2000000 in
theorem msgToldEv2 {w : World} {e : Event} {fs : List Fld} (hF : evFieldsF e = some fs) (hn : fs.all (·.fits) = true) : Spec Go.Proofs.Try.prog 19 #[.agg e.enc.toArray] w [] (EvToldPost e) := by
  have hE : toldEvE e = if eventOfF e.kind (numsF fs) = e then 0 else 40 := by
    unfold toldEvE
    rw [hF]
    simp only [hn, true_and]
  have hsm := (evFieldsF_small hF).1
  refine Spec.enter (fn := Go.Proofs.Try.f19) (n := 32) [.agg e.enc.toArray] Go.Proofs.Try.func19 (by kernel_rfl) rfl Go.Proofs.Try.ntmps19 Go.Proofs.Try.results19 rfl (Own.nil _) ?_
  refine JC.rs ?_
  refine Seq.box (cs := [_, _, _, _, _, _, _, _, _, _, _, _, _]) (k := ?_); intro b1
  refine Seq.p rfl Ev.assign ?_
  refine Seq.p rfl Ev.assign ?_
  refine Seq.p rfl Ev.assign ?_
  refine Seq.nil ?_
  refine JC.rs ?_
  refine Seq.p rfl (Ev.ldBA ag.api_Event) ?_
  refine Seq.call rfl (fun w hw => hF ▸ msgEventFields) (F := _) (by exact List.Perm.refl _) ?_
  rintro _ _ ⟨A, cc, rfl, rfl⟩
  refine Seq.p rfl Ev.move ?_
  refine Seq.p rfl Ev.extract ?_
  refine Seq.p rfl Ev.extract ?_
  refine Seq.p rfl Ev.assign ?_
  refine Seq.p rfl Ev.assign ?_
  refine Seq.nil ?_
  refine JC.seq ?_
  refine JC.rs ?_
  refine Seq.p rfl Ev.move ?_
  refine Seq.p rfl Ev.not ?_
  refine Seq.nil ?_
  first | refine JC.c (ht := fun c14 => ?_) (hf := fun c14 => ?_) | refine JC.cb (ht := fun c14 => ?_) (hf := fun c14 => ?_)
  · -- then_t14
    cases c14
  · -- else_t14
    refine JC.skip ?_
    refine JC.rs ?_
    refine Seq.p rfl Ev.move ?_
    refine Seq.call rfl (fun w hw => msgNumbers (RAt.up (RAt.own (enc := Fld.enc) (xs := fs) (sz := 3) (hs := by omega)) hw)) (F := _) (by exact List.Perm.refl _) ?_
    intro u N hN
    rw [NumsPost, if_pos hn] at hN
    obtain ⟨bn, rfl, rfl⟩ := hN
    refine Seq.p rfl Ev.move ?_
    refine Seq.p rfl Ev.extract ?_
    refine Seq.p rfl Ev.extract ?_
    refine Seq.p rfl Ev.assign ?_
    refine Seq.p rfl Ev.assign ?_
    refine Seq.nil ?_
    refine JC.seq ?_
    refine JC.qs mixed (by kernel_rfl) ?_
    refine Qui.p rfl Ev.move ?_
    refine Qui.p rfl Ev.not ?_
    refine Qui.p rfl Ev.move ?_
    refine Qui.split (d := 22) (k := ?_)
    rintro (_|_) h22
    · try simp only [decide_eq_true_eq, decide_eq_false_iff_not] at h22
      refine Qui.gy rfl rfl rfl ?_
      refine Qui.p rfl (Ev.faB fd.api_Event_1) ?_
      refine Qui.gy rfl rfl rfl ?_
      refine Qui.p rfl (Ev.ldB sc.int) ?_
      refine Qui.gy rfl rfl rfl ?_
      refine Qui.p rfl Ev.move ?_
      refine Qui.gy rfl rfl rfl ?_
      refine Qui.call rfl (fun w hw => msgEventOf (RM.up RM.own hw)) ?_
      refine Qui.gy rfl rfl rfl ?_
      refine Qui.p rfl (Ev.ldBA ag.api_Event) ?_
      refine Qui.gy rfl rfl rfl ?_
      refine Qui.p rfl (Ev.neAg so.api_Event ag.api_Event gd.api_Event) ?_
      refine Qui.p rfl Ev.pickF ?_
      refine Qui.nil ?_
      first | refine JC.c (ht := fun c29 => ?_) (hf := fun c29 => ?_) | refine JC.cb (ht := fun c29 => ?_) (hf := fun c29 => ?_)
      · -- then_t29
        have c35 : (!eqL (eventOfF e.kind (numsF fs)).enc e.enc) = true := c29
        rw [Event.eqL_enc] at c35
        have hne : ¬ eventOfF e.kind (numsF fs) = e := by simpa using c35
        rw [if_neg hne] at hE
        refine JC.rs ?_
        refine Seq.p rfl Ev.assign ?_
        refine Seq.p rfl Ev.assign ?_
        refine Seq.p rfl Ev.assign ?_
        refine Seq.nil ?_
        refine JC.ret ?_
        -- return 0
        show retQ _ _ _ _ _ _ _ _
        refine ret3 (hp := Part.nil _) (hpost := ?_)
        show EvToldPost _ _ _
        rw [EvToldPost, if_neg (by rw [hE]; decide), hE]
      · -- else_t29
        have c35 : (!eqL (eventOfF e.kind (numsF fs)).enc e.enc) = false := c29
        rw [Event.eqL_enc] at c35
        have heq : eventOfF e.kind (numsF fs) = e := of_ndec c35
        rw [if_pos heq] at hE
        refine JC.skip ?_
        refine JC.rs ?_
        refine Seq.p rfl Ev.move ?_
        refine Seq.p rfl Ev.move ?_
        refine Seq.p rfl Ev.assign ?_
        refine Seq.p rfl Ev.assign ?_
        refine Seq.p rfl Ev.assign ?_
        refine Seq.nil ?_
        refine JC.ret ?_
        -- return 1
        show retQ _ _ _ _ _ _ _ _
        refine ret3 (H' := [.mi bn .i64 .u64 (numsF fs), .own 79 3 (.slice A fs.length cc) fs.length (fs.flatMap Fld.enc)]) (hp := Part.here (Part.here (Part.nil _))) (hpost := ?_)
        show EvToldPost _ _ _
        rw [EvToldPost, if_pos hE]
        exact ⟨fs, A, cc, bn, hF, rfl, rfl⟩
    · try simp only [decide_eq_true_eq, decide_eq_false_iff_not] at h22
      cases h22
theorem msgToldEv {w : World} {e : Event} : Spec Go.Proofs.Try.prog 19 #[.agg e.enc.toArray] w [] (EvToldPost e) := by
  rcases hF : evFieldsF e with _ | fs
  · exact msgToldEv0 hF
  · by_cases hn : fs.all (·.fits) = true
    · exact msgToldEv2 hF hn
    · exact msgToldEv1 hF hn
def evFrameF (k : Int) (ms : List (Int × Int)) : Frame :=
  ⟨(64 + k) % 256, [iget ms 34, iget ms 11, add64 (iget ms 37) (iget ms 41), add64 (add64 (add64 (iget ms 1) (up (iget ms 54) 32)) (up (iget ms 40) 40)) (up (iget ms 378) 48), add64 (iget ms 44) (up (iget ms 103) 32), iget ms 38, iget ms 210]⟩
def packEvF (e : Event) : Frame × Int := if toldEvE e = 0 then (match evFieldsF e with | some fs => evFrameF e.kind (numsF fs) | none => frame0, 0) else (frame0, toldEvE e)
set_option maxHeartbeats 2000000 in
theorem msgPackEv0 {w : World} {e : Event} (hE : ¬ toldEvE e = 0) : Spec Go.Proofs.Try.prog 8 #[.agg e.enc.toArray] w [] (fun u _ => u = packV (packEvF e)) := by
  refine Spec.enter (fn := Go.Proofs.Try.f8) (n := 56) [.agg e.enc.toArray] Go.Proofs.Try.func8 (by kernel_rfl) rfl Go.Proofs.Try.ntmps8 Go.Proofs.Try.results8 rfl (Own.nil _) ?_
  refine JC.rs ?_
  refine Seq.box (cs := [_, _, _, _, _, _, _, _, _, _, _, _, _]) (k := ?_); intro b1
  refine Seq.alloc (cs := [_, _, _, _, _, _, _, _]) (hz := z.api_Frame) (k := ?_); intro b2
  refine Seq.p rfl Ev.assign ?_
  refine Seq.nil ?_
  refine JC.rs ?_
  refine Seq.p rfl (Ev.ldBA ag.api_Event) ?_
  refine Seq.call rfl (fun w hw => msgToldEv) (F := _) (by exact List.Perm.refl _) ?_
  intro u N hN
  rw [EvToldPost, if_neg hE] at hN
  subst hN
  refine Seq.re (fun w h => h.part ⟨N, List.perm_append_comm⟩) ?_
  refine Seq.p rfl Ev.move ?_
  refine Seq.p rfl Ev.extract ?_
  refine Seq.p rfl Ev.extract ?_
  refine Seq.p rfl Ev.extract ?_
  refine Seq.p rfl Ev.assign ?_
  refine Seq.p rfl Ev.assign ?_
  refine Seq.p rfl Ev.assign ?_
  refine Seq.nil ?_
  refine JC.seq ?_
  refine JC.rs ?_
  refine Seq.p rfl Ev.move ?_
  refine Seq.p rfl Ev.ne ?_
  refine Seq.nil ?_
  first | refine JC.c (ht := fun c14 => ?_) (hf := fun c14 => ?_) | refine JC.cb (ht := fun c14 => ?_) (hf := fun c14 => ?_)
  · -- then_t14
    refine JC.rs ?_
    refine Seq.p rfl (Ev.buildN [_, _, _, _, _, _, _, _] pl.api_Frame z.api_Frame) ?_
    refine Seq.p rfl Ev.move ?_
    refine Seq.storeN [_, _, _, _, _, _, _, _] sz.api_Frame (k := ?_)
    refine Seq.p rfl Ev.assign ?_
    refine Seq.nil ?_
    refine JC.ret ?_
    -- return 0
    show retQ _ _ _ _ _ _ _ _
    refine retB2 ag.api_Frame (hp := Part.nil _) (hpost := ?_)
    rw [packEvF, if_neg hE]
    rfl
  · -- else_t14
    exact absurd hE c14
set_option maxHeartbeats 4000000 in
theorem msgPackEv1 {w : World} {e : Event} (hE : toldEvE e = 0) : Spec Go.Proofs.Try.prog 8 #[.agg e.enc.toArray] w [] (fun u _ => u = packV (packEvF e)) := by
  refine Spec.enter (fn := Go.Proofs.Try.f8) (n := 56) [.agg e.enc.toArray] Go.Proofs.Try.func8 (by kernel_rfl) rfl Go.Proofs.Try.ntmps8 Go.Proofs.Try.results8 rfl (Own.nil _) ?_
  refine JC.rs ?_
  refine Seq.box (cs := [_, _, _, _, _, _, _, _, _, _, _, _, _]) (k := ?_); intro b1
  refine Seq.alloc (cs := [_, _, _, _, _, _, _, _]) (hz := z.api_Frame) (k := ?_); intro b2
  refine Seq.p rfl Ev.assign ?_
  refine Seq.nil ?_
  refine JC.rs ?_
  refine Seq.p rfl (Ev.ldBA ag.api_Event) ?_
  refine Seq.call rfl (fun w hw => msgToldEv) (F := _) (by exact List.Perm.refl _) ?_
  intro u N hN
  rw [EvToldPost, if_pos hE] at hN
  obtain ⟨fs, A, cc, b3, hF, rfl, rfl⟩ := hN
  have hkd := (evFieldsF_small hF).2
  refine Seq.p rfl Ev.move ?_
  refine Seq.p rfl Ev.extract ?_
  refine Seq.p rfl Ev.extract ?_
  refine Seq.p rfl Ev.extract ?_
  refine Seq.p rfl Ev.assign ?_
  refine Seq.p rfl Ev.assign ?_
  refine Seq.p rfl Ev.assign ?_
  refine Seq.nil ?_
  refine JC.seq ?_
  refine JC.rs ?_
  refine Seq.p rfl Ev.move ?_
  refine Seq.p rfl Ev.ne ?_
  refine Seq.nil ?_
  first | refine JC.c (ht := fun c14 => ?_) (hf := fun c14 => ?_) | refine JC.cb (ht := fun c14 => ?_) (hf := fun c14 => ?_)
  · -- then_t14
    exact absurd rfl c14
  · -- else_t14
    refine JC.skip ?_
    refine JC.rs ?_
    refine Seq.p rfl (Ev.faB fd.api_Event_1) ?_
    refine Seq.p rfl (Ev.ldB sc.int) ?_
    refine Seq.p rfl Ev.add ?_
    refine Seq.p rfl (Ev.convU8W it.int it.uint8) ?_
    refine Seq.p rfl Ev.move ?_
    refine Seq.p rfl (Ev.mapI mp.m_int_uint64 z.uint64 RM.own) ?_
    refine Seq.p rfl Ev.move ?_
    refine Seq.p rfl (Ev.mapI mp.m_int_uint64 z.uint64 RM.own) ?_
    refine Seq.p rfl Ev.move ?_
    refine Seq.p rfl (Ev.mapI mp.m_int_uint64 z.uint64 RM.own) ?_
    refine Seq.p rfl Ev.move ?_
    refine Seq.p rfl (Ev.mapI mp.m_int_uint64 z.uint64 RM.own) ?_
    refine Seq.p rfl Ev.addU ?_
    refine Seq.p rfl Ev.move ?_
    refine Seq.p rfl (Ev.mapI mp.m_int_uint64 z.uint64 RM.own) ?_
    refine Seq.p rfl Ev.move ?_
    refine Seq.p rfl (Ev.mapI mp.m_int_uint64 z.uint64 RM.own) ?_
    refine Seq.p rfl Ev.shlW ?_
    refine Seq.p rfl Ev.addU ?_
    refine Seq.p rfl Ev.move ?_
    refine Seq.p rfl (Ev.mapI mp.m_int_uint64 z.uint64 RM.own) ?_
    refine Seq.p rfl Ev.shlW ?_
    refine Seq.p rfl Ev.addU ?_
    refine Seq.p rfl Ev.move ?_
    refine Seq.p rfl (Ev.mapI mp.m_int_uint64 z.uint64 RM.own) ?_
    refine Seq.p rfl Ev.shlW ?_
    refine Seq.p rfl Ev.addU ?_
    refine Seq.p rfl Ev.move ?_
    refine Seq.p rfl (Ev.mapI mp.m_int_uint64 z.uint64 RM.own) ?_
    refine Seq.p rfl Ev.move ?_
    refine Seq.p rfl (Ev.mapI mp.m_int_uint64 z.uint64 RM.own) ?_
    refine Seq.p rfl Ev.shlW ?_
    refine Seq.p rfl Ev.addU ?_
    refine Seq.p rfl Ev.move ?_
    refine Seq.p rfl (Ev.mapI mp.m_int_uint64 z.uint64 RM.own) ?_
    refine Seq.p rfl Ev.move ?_
    refine Seq.p rfl (Ev.mapI mp.m_int_uint64 z.uint64 RM.own) ?_
    refine Seq.p rfl (Ev.buildArrN [_, _, _, _, _, _, _] ar.a7_uint64 z.a7_uint64) ?_
    refine Seq.p rfl (Ev.buildN [_, _, _, _, _, _, _, _] pl.api_Frame z.api_Frame) ?_
    refine Seq.storeN [_, _, _, _, _, _, _, _] sz.api_Frame (k := ?_)
    refine Seq.p rfl Ev.assign ?_
    refine Seq.nil ?_
    refine JC.ret ?_
    -- return 0
    show retQ _ _ _ _ _ _ _ _
    refine retB2 ag.api_Frame (hp := Part.nil _) (hpost := ?_)
    rw [packEvF, if_pos hE, hF]
    rfl
theorem msgPackEv {w : World} {e : Event} : Spec Go.Proofs.Try.prog 8 #[.agg e.enc.toArray] w [] (fun u _ => u = packV (packEvF e)) := by
  by_cases hE : toldEvE e = 0
  · exact msgPackEv1 hE
  · exact msgPackEv0 hE
end Go.Rx
