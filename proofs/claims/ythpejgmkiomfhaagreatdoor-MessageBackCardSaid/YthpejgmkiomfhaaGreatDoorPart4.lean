/- Parts of the proof. -/
import Derived.Test.YthpejgmkiomfhaaGreatDoorPart3
set_option linter.unusedVariables false
set_option linter.unusedSimpArgs false
/- The law bourselaw04.MessageBack gives true. -/
namespace Go.Rx
open Go Go.RowKit Go.Lib Go.Proofs.YthpejgmkiomfhaaGreatDoor
set_option linter.unusedVariables false
set_option linter.unusedSimpArgs false
set_option maxHeartbeats 8000000 in
set_option maxRecDepth 100000 in
theorem lawBackM {w : World} {i : Input} {v : Event} (hi : i.Wf) (hv : v.Wf) (hL : Laid w) :
    Spec Go.Proofs.Tryz.prog 4 #[.agg i.enc.toArray, .agg v.enc.toArray] w [] (fun u _ => u = .bool true) := by
  obtain ⟨k, g0, g1, g2, g3, g4, g5, g6, hp⟩ := pack_shape i
  obtain ⟨k', d0, d1, d2, d3, d4, d5, d6, hq⟩ := packEv_shape v
  have q1 : packF i = (⟨k, [g0, g1, g2, g3, g4, g5, g6]⟩, toldE i) := by rw [← hp, ← packF_two i]
  have q2 : packEvF v = (⟨k', [d0, d1, d2, d3, d4, d5, d6]⟩, toldEvE v) := by rw [← hq, ← packEvF_two v]
  have bq1 := pack_back hi
  have bq2 := packEv_back hv
  have bq3 := packEvF_kind (e := v)
  rw [hp] at bq1
  rw [hq] at bq2 bq3
  have l1 := line_err hi
  have l2 := evLine_err hv
  have r1 := back_line hi
  have r2 := back_evLine hv
  have y1 := lineF_bytes i
  have y2 := evLineF_bytes v
  have z1 := lineF_len i
  have z2 := evLineF_len v
  obtain ⟨e1, he1⟩ : ∃ e1, e1 = toldE i := ⟨_, rfl⟩
  obtain ⟨e2, he2⟩ : ∃ e2, e2 = toldEvE v := ⟨_, rfl⟩
  rw [← he1] at q1 bq1 l1 r1
  rw [← he2] at q2 bq2 bq3 l2 r2
  obtain ⟨p, hpp⟩ : ∃ p, p = lineF i := ⟨_, rfl⟩
  obtain ⟨q, hqq⟩ : ∃ q, q = evLineF v := ⟨_, rfl⟩
  have ml : ∀ {w' : World}, Upd w w' [] [] → Spec Go.Proofs.Tryz.prog 14 #[.agg i.enc.toArray] w' [] (LinePost p) := fun hw => hpp ▸ msgLine hi (hL.t.upd hw)
  have me : ∀ {w' : World}, Upd w w' [] [] → Spec Go.Proofs.Tryz.prog 16 #[.agg v.enc.toArray] w' [] (LinePost q) := fun hw => hqq ▸ msgEventLine hv (hL.t.upd hw)
  rw [← hpp] at l1 r1 y1 z1
  rw [← hqq] at l2 r2 y2 z2
  obtain ⟨pe, pq⟩ := p
  obtain ⟨qe, ql⟩ := q
  dsimp only at l1 r1 y1 z1 l2 r2 y2 z2
  subst l1 l2
  refine Spec.enter (fn := Go.Proofs.Tryz.f4) (n := 123) [.agg i.enc.toArray, .agg v.enc.toArray] Go.Proofs.Tryz.func4 (by kernel_rfl) rfl Go.Proofs.Tryz.ntmps4 Go.Proofs.Tryz.results4 rfl (Own.nil _) ?_
  refine JC.rs ?_
  refine Seq.box (cs := [_, _, _, _, _, _, _, _, _, _, _]) (k := ?_); intro b2
  refine Seq.box (cs := [_, _, _, _, _, _, _, _, _, _, _, _, _]) (k := ?_); intro b3
  refine Seq.p rfl Ev.assign ?_
  refine Seq.nil ?_
  refine JC.seq ?_
  refine JC.rs ?_
  refine Seq.callP rfl (fun w hw => lawLives (hL.upd hw)) ?_
  refine Seq.p rfl Ev.not ?_
  refine Seq.nil ?_
  first | refine JC.c (ht := fun c24 => ?_) (hf := fun c24 => ?_) | refine JC.cb (ht := fun c24 => ?_) (hf := fun c24 => ?_)
  · -- then_t24
    cases c24
  · -- else_t24
    refine JC.skip ?_
    refine JC.rs ?_
    refine Seq.p rfl (Ev.ldBA ag.api_Input) ?_
    refine Seq.callP rfl (v := .tuple #[.agg (frV k g0 g1 g2 g3 g4 g5 g6).toArray, .int .i64 pe]) (fun w' hw => by have h := msgPack (w := w') (i := i); rw [q1] at h; exact h) ?_
    refine Seq.p rfl Ev.move ?_
    refine Seq.p rfl Ev.extract ?_
    refine Seq.p rfl Ev.extract ?_
    refine Seq.alloc (cs := [_, _, _, _, _, _, _, _]) (hz := z.api_Frame) (k := ?_); intro b5
    refine Seq.storeN [_, _, _, _, _, _, _, _] sz.api_Frame (k := ?_)
    refine Seq.p rfl Ev.assign ?_
    refine Seq.nil ?_
    refine JC.rs ?_
    refine Seq.p rfl (Ev.ldBA ag.api_Input) ?_
    refine Seq.call rfl (fun w' hw => ml (hw.part (Part.nil _))) (F := _) (by exact List.Perm.refl _) ?_
    rintro _ _ ⟨A32, c32, rfl, rfl⟩
    simp only [List.cons_append, List.nil_append]
    refine Seq.p rfl Ev.move ?_
    refine Seq.p rfl Ev.extract ?_
    refine Seq.p rfl Ev.extract ?_
    refine Seq.p rfl Ev.assign ?_
    refine Seq.p rfl Ev.assign ?_
    refine Seq.nil ?_
    refine JC.rs ?_
    refine Seq.p rfl (Ev.ldBA ag.api_Event) ?_
    refine Seq.callP rfl (v := .tuple #[.agg (frV k' d0 d1 d2 d3 d4 d5 d6).toArray, .int .i64 qe]) (fun w' hw => by have h := msgPackEv (w := w') (e := v); rw [q2] at h; exact h) ?_
    refine Seq.p rfl Ev.move ?_
    refine Seq.p rfl Ev.extract ?_
    refine Seq.p rfl Ev.extract ?_
    refine Seq.alloc (cs := [_, _, _, _, _, _, _, _]) (hz := z.api_Frame) (k := ?_); intro b9
    refine Seq.storeN [_, _, _, _, _, _, _, _] sz.api_Frame (k := ?_)
    refine Seq.p rfl Ev.assign ?_
    refine Seq.nil ?_
    refine JC.rs ?_
    refine Seq.p rfl (Ev.ldBA ag.api_Event) ?_
    refine Seq.call rfl (fun w' hw => me (hw.part (Part.nil _))) (F := _) (by exact List.Perm.refl _) ?_
    rintro _ _ ⟨A42, c42, rfl, rfl⟩
    simp only [List.cons_append, List.nil_append]
    refine Seq.p rfl Ev.move ?_
    refine Seq.p rfl Ev.extract ?_
    refine Seq.p rfl Ev.extract ?_
    refine Seq.p rfl Ev.assign ?_
    refine Seq.p rfl Ev.assign ?_
    refine Seq.nil ?_
    refine JC.seq ?_
    refine JC.rs ?_
    refine Seq.p rfl Ev.move ?_
    refine Seq.p rfl Ev.move ?_
    refine Seq.p rfl Ev.ne ?_
    refine Seq.p rfl Ev.move ?_
    refine Seq.orG (D := [48, 49, 50, 51, 52]) (d := 48) (t := 52) (k := 4) (hn := fun h48 => ?_) (hx := ?_)
    · repeat (first | refine Seq.gn rfl rfl rfl rfl ?_ | refine Seq.gu rfl rfl rfl ?_)
      refine Seq.p rfl Ev.pickT ?_
      exact Seq.nil ⟨rfl, (by repeat (first | with_reducible exact Off.refl | refine Off.upd ?_ rfl | exact Off.mix | refine Off.mix2 ?_ rfl)), Look.here⟩
    apply Exists.intro
    refine ⟨fun h48 => ?_, fun u52 => ?_⟩
    · try simp only [decide_eq_true_eq, decide_eq_false_iff_not, Bool.and_eq_true, Bool.or_eq_true, Bool.not_eq_true', Bool.not_eq_false', Bool.or_eq_false_iff, Bool.and_eq_false_imp] at h48
      refine Seq.gy rfl rfl rfl ?_
      refine Seq.p rfl Ev.move ?_
      refine Seq.gy rfl rfl rfl ?_
      refine Seq.p rfl Ev.move ?_
      refine Seq.gy rfl rfl rfl ?_
      refine Seq.p rfl Ev.ne ?_
      refine Seq.p rfl Ev.pickF ?_
      exact Seq.nil ⟨rfl, (by repeat (first | with_reducible exact Off.refl | refine Off.upd ?_ rfl | exact Off.mix | refine Off.mix2 ?_ rfl)), Look.here⟩
    refine Seq.nil ?_
    first | refine JC.c (ht := fun c52 => ?_) (hf := fun c52 => ?_) | refine JC.cb (ht := fun c52 => ?_) (hf := fun c52 => ?_)
    · -- then_t52
      exfalso
      simp at c52
    · -- else_t52
      refine JC.skip ?_
      refine JC.seq ?_
      refine JC.rs ?_
      refine Seq.p rfl Ev.move ?_
      refine Seq.p rfl Ev.eq ?_
      refine Seq.nil ?_
      first | refine JC.c (ht := fun c54 => ?_) (hf := fun c54 => ?_) | refine JC.cb (ht := fun c54 => ?_) (hf := fun c54 => ?_)
      · -- then_t54
        refine JC.rs ?_
        refine Seq.p rfl (Ev.ldBA ag.api_Frame) ?_
        refine Seq.callP rfl (v := .tuple #[.agg i.enc.toArray, .int .i64 0]) (fun w' hw => by have h := msgUnpack (w := w') (k := k) (g0 := g0) (g1 := g1) (g2 := g2) (g3 := g3) (g4 := g4) (g5 := g5) (g6 := g6); rw [bq1 c54] at h; exact h) ?_
        refine Seq.p rfl Ev.move ?_
        refine Seq.p rfl Ev.extract ?_
        refine Seq.p rfl Ev.extract ?_
        refine Seq.alloc (cs := [_, _, _, _, _, _, _, _, _, _, _]) (hz := z.api_Input) (k := ?_); intro b13
        refine Seq.storeTo (cs' := i.enc) sz.api_Input (hH := At.z) (hfit := Nat.le_of_ble_eq_true rfl) (hcs := rfl) (k := ?_)
        refine Seq.p rfl Ev.assign ?_
        refine Seq.nil ?_
        refine JC.rs ?_
        refine Seq.p rfl Ev.move ?_
        refine Seq.callP rfl (v := .tuple #[.agg i.enc.toArray, .int .i64 (pq.length : Int), .int .i64 0]) (fun w' hw => by have h := msgReadLine (w := w') (l := pq) (RAt.up (RAt.own (enc := byteEnc) (xs := pq) (hH := At.s (At.s (At.s At.z)))) hw) y1 (by omega) (hL.upd hw); rw [r1 c54] at h; exact h) ?_
        refine Seq.p rfl Ev.move ?_
        refine Seq.p rfl Ev.extract ?_
        refine Seq.p rfl Ev.extract ?_
        refine Seq.p rfl Ev.extract ?_
        refine Seq.alloc (cs := [_, _, _, _, _, _, _, _, _, _, _]) (hz := z.api_Input) (k := ?_); intro b15
        refine Seq.storeTo (cs' := i.enc) sz.api_Input (hH := At.z) (hfit := Nat.le_of_ble_eq_true rfl) (hcs := rfl) (k := ?_)
        refine Seq.p rfl Ev.assign ?_
        refine Seq.p rfl Ev.assign ?_
        refine Seq.nil ?_
        refine JC.rs ?_
        refine Seq.p rfl Ev.move ?_
        refine Seq.p rfl Ev.ne ?_
        refine Seq.p rfl Ev.move ?_
        refine Seq.orG (D := [68, 69, 70, 71]) (d := 68) (t := 71) (k := 3) (hn := fun h68 => ?_) (hx := ?_)
        · repeat (first | refine Seq.gn rfl rfl rfl rfl ?_ | refine Seq.gu rfl rfl rfl ?_)
          refine Seq.p rfl Ev.pickT ?_
          exact Seq.nil ⟨rfl, (by repeat (first | with_reducible exact Off.refl | refine Off.upd ?_ rfl | exact Off.mix | refine Off.mix2 ?_ rfl)), Look.here⟩
        apply Exists.intro
        refine ⟨fun h68 => ?_, fun u71 => ?_⟩
        · try simp only [decide_eq_true_eq, decide_eq_false_iff_not, Bool.and_eq_true, Bool.or_eq_true, Bool.not_eq_true', Bool.not_eq_false', Bool.or_eq_false_iff, Bool.and_eq_false_imp] at h68
          refine Seq.gy rfl rfl rfl ?_
          refine Seq.p rfl Ev.move ?_
          refine Seq.gy rfl rfl rfl ?_
          refine Seq.p rfl Ev.ne ?_
          refine Seq.p rfl Ev.pickF ?_
          exact Seq.nil ⟨rfl, (by repeat (first | with_reducible exact Off.refl | refine Off.upd ?_ rfl | exact Off.mix | refine Off.mix2 ?_ rfl)), Look.here⟩
        refine Seq.p rfl Ev.move ?_
        refine Seq.orG (D := [72, 73, 74, 75, 76]) (d := 72) (t := 76) (k := 4) (hn := fun h72 => ?_) (hx := ?_)
        · repeat (first | refine Seq.gn rfl rfl rfl rfl ?_ | refine Seq.gu rfl rfl rfl ?_)
          refine Seq.p rfl Ev.pickT ?_
          exact Seq.nil ⟨rfl, (by repeat (first | with_reducible exact Off.refl | refine Off.upd ?_ rfl | exact Off.mix | refine Off.mix2 ?_ rfl)), Look.here⟩
        apply Exists.intro
        refine ⟨fun h72 => ?_, fun u76 => ?_⟩
        · try simp only [decide_eq_true_eq, decide_eq_false_iff_not, Bool.and_eq_true, Bool.or_eq_true, Bool.not_eq_true', Bool.not_eq_false', Bool.or_eq_false_iff, Bool.and_eq_false_imp] at h72
          refine Seq.gy rfl rfl rfl ?_
          refine Seq.p rfl (Ev.ldBA (cs := i.enc) ag.api_Input) ?_
          refine Seq.gy rfl rfl rfl ?_
          refine Seq.p rfl (Ev.ldBA (cs := i.enc) ag.api_Input) ?_
          refine Seq.gy rfl rfl rfl ?_
          refine Seq.p rfl (Ev.neAg so.api_Input ag.api_Input gd.api_Input) ?_
          refine Seq.p rfl Ev.pickF ?_
          exact Seq.nil ⟨rfl, (by repeat (first | with_reducible exact Off.refl | refine Off.upd ?_ rfl | exact Off.mix | refine Off.mix2 ?_ rfl)), Look.here⟩
        refine Seq.p rfl Ev.move ?_
        refine Seq.orG (D := [77, 78, 79, 80, 81]) (d := 77) (t := 81) (k := 4) (hn := fun h77 => ?_) (hx := ?_)
        · repeat (first | refine Seq.gn rfl rfl rfl rfl ?_ | refine Seq.gu rfl rfl rfl ?_)
          refine Seq.p rfl Ev.pickT ?_
          exact Seq.nil ⟨rfl, (by repeat (first | with_reducible exact Off.refl | refine Off.upd ?_ rfl | exact Off.mix | refine Off.mix2 ?_ rfl)), Look.here⟩
        apply Exists.intro
        refine ⟨fun h77 => ?_, fun u81 => ?_⟩
        · try simp only [decide_eq_true_eq, decide_eq_false_iff_not, Bool.and_eq_true, Bool.or_eq_true, Bool.not_eq_true', Bool.not_eq_false', Bool.or_eq_false_iff, Bool.and_eq_false_imp] at h77
          refine Seq.gy rfl rfl rfl ?_
          refine Seq.p rfl (Ev.ldBA (cs := i.enc) ag.api_Input) ?_
          refine Seq.gy rfl rfl rfl ?_
          refine Seq.p rfl (Ev.ldBA (cs := i.enc) ag.api_Input) ?_
          refine Seq.gy rfl rfl rfl ?_
          refine Seq.p rfl (Ev.neAg so.api_Input ag.api_Input gd.api_Input) ?_
          refine Seq.p rfl Ev.pickF ?_
          exact Seq.nil ⟨rfl, (by repeat (first | with_reducible exact Off.refl | refine Off.upd ?_ rfl | exact Off.mix | refine Off.mix2 ?_ rfl)), Look.here⟩
        refine Seq.p rfl Ev.move ?_
        refine Seq.orG (D := [82, 83, 84, 85, 86, 87]) (d := 82) (t := 87) (k := 5) (hn := fun h82 => ?_) (hx := ?_)
        · repeat (first | refine Seq.gn rfl rfl rfl rfl ?_ | refine Seq.gu rfl rfl rfl ?_)
          refine Seq.p rfl Ev.pickT ?_
          exact Seq.nil ⟨rfl, (by repeat (first | with_reducible exact Off.refl | refine Off.upd ?_ rfl | exact Off.mix | refine Off.mix2 ?_ rfl)), Look.here⟩
        apply Exists.intro
        refine ⟨fun h82 => ?_, fun u87 => ?_⟩
        · try simp only [decide_eq_true_eq, decide_eq_false_iff_not, Bool.and_eq_true, Bool.or_eq_true, Bool.not_eq_true', Bool.not_eq_false', Bool.or_eq_false_iff, Bool.and_eq_false_imp] at h82
          refine Seq.gy rfl rfl rfl ?_
          refine Seq.p rfl Ev.move ?_
          refine Seq.gy rfl rfl rfl ?_
          refine Seq.p rfl Ev.move ?_
          refine Seq.gy rfl rfl rfl ?_
          refine Seq.p rfl (Ev.lenSl sl.sl_uint8 (hr := RAt.own (enc := byteEnc) (xs := pq) (hH := At.s (At.s (At.s (At.s At.z)))))) ?_
          refine Seq.gy rfl rfl rfl ?_
          refine Seq.p rfl Ev.ne ?_
          refine Seq.p rfl Ev.pickF ?_
          exact Seq.nil ⟨rfl, (by repeat (first | with_reducible exact Off.refl | refine Off.upd ?_ rfl | exact Off.mix | refine Off.mix2 ?_ rfl)), Look.here⟩
        refine Seq.nil ?_
        first | refine JC.c (ht := fun c87 => ?_) (hf := fun c87 => ?_) | refine JC.cb (ht := fun c87 => ?_) (hf := fun c87 => ?_)
        · -- then_t87
          exfalso
          simp [Input.eqL_enc] at c87
        · -- else_t87
          refine JC.skip ?_
          refine JC.seq ?_
          refine JC.rs ?_
          refine Seq.p rfl Ev.move ?_
          refine Seq.p rfl Ev.eq ?_
          refine Seq.nil ?_
          first | refine JC.c (ht := fun c89 => ?_) (hf := fun c89 => ?_) | refine JC.cb (ht := fun c89 => ?_) (hf := fun c89 => ?_)
          · -- then_t89
            refine JC.rs ?_
            refine Seq.p rfl (Ev.ldBA ag.api_Frame) ?_
            refine Seq.callP rfl (v := .tuple #[.agg v.enc.toArray, .int .i64 0]) (fun w' hw => by have h := msgUnpackEv (w := w') (k := k') (g0 := d0) (g1 := d1) (g2 := d2) (g3 := d3) (g4 := d4) (g5 := d5) (g6 := d6) (bq3 c89); rw [bq2 c89] at h; exact h) ?_
            refine Seq.p rfl Ev.move ?_
            refine Seq.p rfl Ev.extract ?_
            refine Seq.p rfl Ev.extract ?_
            refine Seq.alloc (cs := [_, _, _, _, _, _, _, _, _, _, _, _, _]) (hz := z.api_Event) (k := ?_); intro b18
            refine Seq.storeTo (cs' := v.enc) sz.api_Event (hH := At.z) (hfit := Nat.le_of_ble_eq_true rfl) (hcs := rfl) (k := ?_)
            refine Seq.p rfl Ev.assign ?_
            refine Seq.nil ?_
            refine JC.rs ?_
            refine Seq.p rfl Ev.move ?_
            refine Seq.callP rfl (v := .tuple #[.agg v.enc.toArray, .int .i64 (ql.length : Int), .int .i64 0]) (fun w' hw => by have h := msgReadEvent (w := w') (l := ql) (RAt.up (RAt.own (enc := byteEnc) (xs := ql)) hw) y2 (by omega) (hL.upd hw); rw [r2 c89] at h; exact h) ?_
            refine Seq.p rfl Ev.move ?_
            refine Seq.p rfl Ev.extract ?_
            refine Seq.p rfl Ev.extract ?_
            refine Seq.p rfl Ev.extract ?_
            refine Seq.alloc (cs := [_, _, _, _, _, _, _, _, _, _, _, _, _]) (hz := z.api_Event) (k := ?_); intro b20
            refine Seq.storeTo (cs' := v.enc) sz.api_Event (hH := At.z) (hfit := Nat.le_of_ble_eq_true rfl) (hcs := rfl) (k := ?_)
            refine Seq.p rfl Ev.assign ?_
            refine Seq.p rfl Ev.assign ?_
            refine Seq.nil ?_
            refine JC.rs ?_
            refine Seq.p rfl Ev.move ?_
            refine Seq.p rfl Ev.ne ?_
            refine Seq.p rfl Ev.move ?_
            refine Seq.orG (D := [103, 104, 105, 106]) (d := 103) (t := 106) (k := 3) (hn := fun h103 => ?_) (hx := ?_)
            · repeat (first | refine Seq.gn rfl rfl rfl rfl ?_ | refine Seq.gu rfl rfl rfl ?_)
              refine Seq.p rfl Ev.pickT ?_
              exact Seq.nil ⟨rfl, (by repeat (first | with_reducible exact Off.refl | refine Off.upd ?_ rfl | exact Off.mix | refine Off.mix2 ?_ rfl)), Look.here⟩
            apply Exists.intro
            refine ⟨fun h103 => ?_, fun u106 => ?_⟩
            · try simp only [decide_eq_true_eq, decide_eq_false_iff_not, Bool.and_eq_true, Bool.or_eq_true, Bool.not_eq_true', Bool.not_eq_false', Bool.or_eq_false_iff, Bool.and_eq_false_imp] at h103
              refine Seq.gy rfl rfl rfl ?_
              refine Seq.p rfl Ev.move ?_
              refine Seq.gy rfl rfl rfl ?_
              refine Seq.p rfl Ev.ne ?_
              refine Seq.p rfl Ev.pickF ?_
              exact Seq.nil ⟨rfl, (by repeat (first | with_reducible exact Off.refl | refine Off.upd ?_ rfl | exact Off.mix | refine Off.mix2 ?_ rfl)), Look.here⟩
            refine Seq.p rfl Ev.move ?_
            refine Seq.orG (D := [107, 108, 109, 110, 111]) (d := 107) (t := 111) (k := 4) (hn := fun h107 => ?_) (hx := ?_)
            · repeat (first | refine Seq.gn rfl rfl rfl rfl ?_ | refine Seq.gu rfl rfl rfl ?_)
              refine Seq.p rfl Ev.pickT ?_
              exact Seq.nil ⟨rfl, (by repeat (first | with_reducible exact Off.refl | refine Off.upd ?_ rfl | exact Off.mix | refine Off.mix2 ?_ rfl)), Look.here⟩
            apply Exists.intro
            refine ⟨fun h107 => ?_, fun u111 => ?_⟩
            · try simp only [decide_eq_true_eq, decide_eq_false_iff_not, Bool.and_eq_true, Bool.or_eq_true, Bool.not_eq_true', Bool.not_eq_false', Bool.or_eq_false_iff, Bool.and_eq_false_imp] at h107
              refine Seq.gy rfl rfl rfl ?_
              refine Seq.p rfl (Ev.ldBA (cs := v.enc) ag.api_Event) ?_
              refine Seq.gy rfl rfl rfl ?_
              refine Seq.p rfl (Ev.ldBA (cs := v.enc) ag.api_Event) ?_
              refine Seq.gy rfl rfl rfl ?_
              refine Seq.p rfl (Ev.neAg so.api_Event ag.api_Event gd.api_Event) ?_
              refine Seq.p rfl Ev.pickF ?_
              exact Seq.nil ⟨rfl, (by repeat (first | with_reducible exact Off.refl | refine Off.upd ?_ rfl | exact Off.mix | refine Off.mix2 ?_ rfl)), Look.here⟩
            refine Seq.p rfl Ev.move ?_
            refine Seq.orG (D := [112, 113, 114, 115, 116]) (d := 112) (t := 116) (k := 4) (hn := fun h112 => ?_) (hx := ?_)
            · repeat (first | refine Seq.gn rfl rfl rfl rfl ?_ | refine Seq.gu rfl rfl rfl ?_)
              refine Seq.p rfl Ev.pickT ?_
              exact Seq.nil ⟨rfl, (by repeat (first | with_reducible exact Off.refl | refine Off.upd ?_ rfl | exact Off.mix | refine Off.mix2 ?_ rfl)), Look.here⟩
            apply Exists.intro
            refine ⟨fun h112 => ?_, fun u116 => ?_⟩
            · try simp only [decide_eq_true_eq, decide_eq_false_iff_not, Bool.and_eq_true, Bool.or_eq_true, Bool.not_eq_true', Bool.not_eq_false', Bool.or_eq_false_iff, Bool.and_eq_false_imp] at h112
              refine Seq.gy rfl rfl rfl ?_
              refine Seq.p rfl (Ev.ldBA (cs := v.enc) ag.api_Event) ?_
              refine Seq.gy rfl rfl rfl ?_
              refine Seq.p rfl (Ev.ldBA (cs := v.enc) ag.api_Event) ?_
              refine Seq.gy rfl rfl rfl ?_
              refine Seq.p rfl (Ev.neAg so.api_Event ag.api_Event gd.api_Event) ?_
              refine Seq.p rfl Ev.pickF ?_
              exact Seq.nil ⟨rfl, (by repeat (first | with_reducible exact Off.refl | refine Off.upd ?_ rfl | exact Off.mix | refine Off.mix2 ?_ rfl)), Look.here⟩
            refine Seq.p rfl Ev.move ?_
            refine Seq.orG (D := [117, 118, 119, 120, 121, 122]) (d := 117) (t := 122) (k := 5) (hn := fun h117 => ?_) (hx := ?_)
            · repeat (first | refine Seq.gn rfl rfl rfl rfl ?_ | refine Seq.gu rfl rfl rfl ?_)
              refine Seq.p rfl Ev.pickT ?_
              exact Seq.nil ⟨rfl, (by repeat (first | with_reducible exact Off.refl | refine Off.upd ?_ rfl | exact Off.mix | refine Off.mix2 ?_ rfl)), Look.here⟩
            apply Exists.intro
            refine ⟨fun h117 => ?_, fun u122 => ?_⟩
            · try simp only [decide_eq_true_eq, decide_eq_false_iff_not, Bool.and_eq_true, Bool.or_eq_true, Bool.not_eq_true', Bool.not_eq_false', Bool.or_eq_false_iff, Bool.and_eq_false_imp] at h117
              refine Seq.gy rfl rfl rfl ?_
              refine Seq.p rfl Ev.move ?_
              refine Seq.gy rfl rfl rfl ?_
              refine Seq.p rfl Ev.move ?_
              refine Seq.gy rfl rfl rfl ?_
              refine Seq.p rfl (Ev.lenSl sl.sl_uint8 (hr := RAt.own (enc := byteEnc) (xs := ql))) ?_
              refine Seq.gy rfl rfl rfl ?_
              refine Seq.p rfl Ev.ne ?_
              refine Seq.p rfl Ev.pickF ?_
              exact Seq.nil ⟨rfl, (by repeat (first | with_reducible exact Off.refl | refine Off.upd ?_ rfl | exact Off.mix | refine Off.mix2 ?_ rfl)), Look.here⟩
            refine Seq.nil ?_
            first | refine JC.c (ht := fun c122 => ?_) (hf := fun c122 => ?_) | refine JC.cb (ht := fun c122 => ?_) (hf := fun c122 => ?_)
            · -- then_t122
              exfalso
              simp [Event.eqL_enc] at c122
            · -- else_t122
              refine JC.skip ?_
              refine JC.rs ?_
              refine Seq.p rfl Ev.assign ?_
              refine Seq.nil ?_
              refine JC.ret ?_
              show retQ _ _ _ _ _ _ _ _
              refine ret1 (hp := Part.nil _) (hpost := ?_)
              rfl
          · -- else_t89
            refine JC.skip ?_
            refine JC.rs ?_
            refine Seq.p rfl Ev.assign ?_
            refine Seq.nil ?_
            refine JC.ret ?_
            show retQ _ _ _ _ _ _ _ _
            refine ret1 (hp := Part.nil _) (hpost := ?_)
            rfl
      · -- else_t54
        refine JC.skip ?_
        refine JC.seq ?_
        refine JC.rs ?_
        refine Seq.p rfl Ev.move ?_
        refine Seq.p rfl Ev.eq ?_
        refine Seq.nil ?_
        first | refine JC.c (ht := fun c89 => ?_) (hf := fun c89 => ?_) | refine JC.cb (ht := fun c89 => ?_) (hf := fun c89 => ?_)
        · -- then_t89
          refine JC.rs ?_
          refine Seq.p rfl (Ev.ldBA ag.api_Frame) ?_
          refine Seq.callP rfl (v := .tuple #[.agg v.enc.toArray, .int .i64 0]) (fun w' hw => by have h := msgUnpackEv (w := w') (k := k') (g0 := d0) (g1 := d1) (g2 := d2) (g3 := d3) (g4 := d4) (g5 := d5) (g6 := d6) (bq3 c89); rw [bq2 c89] at h; exact h) ?_
          refine Seq.p rfl Ev.move ?_
          refine Seq.p rfl Ev.extract ?_
          refine Seq.p rfl Ev.extract ?_
          refine Seq.alloc (cs := [_, _, _, _, _, _, _, _, _, _, _, _, _]) (hz := z.api_Event) (k := ?_); intro b18
          refine Seq.storeTo (cs' := v.enc) sz.api_Event (hH := At.z) (hfit := Nat.le_of_ble_eq_true rfl) (hcs := rfl) (k := ?_)
          refine Seq.p rfl Ev.assign ?_
          refine Seq.nil ?_
          refine JC.rs ?_
          refine Seq.p rfl Ev.move ?_
          refine Seq.callP rfl (v := .tuple #[.agg v.enc.toArray, .int .i64 (ql.length : Int), .int .i64 0]) (fun w' hw => by have h := msgReadEvent (w := w') (l := ql) (RAt.up (RAt.own (enc := byteEnc) (xs := ql)) hw) y2 (by omega) (hL.upd hw); rw [r2 c89] at h; exact h) ?_
          refine Seq.p rfl Ev.move ?_
          refine Seq.p rfl Ev.extract ?_
          refine Seq.p rfl Ev.extract ?_
          refine Seq.p rfl Ev.extract ?_
          refine Seq.alloc (cs := [_, _, _, _, _, _, _, _, _, _, _, _, _]) (hz := z.api_Event) (k := ?_); intro b20
          refine Seq.storeTo (cs' := v.enc) sz.api_Event (hH := At.z) (hfit := Nat.le_of_ble_eq_true rfl) (hcs := rfl) (k := ?_)
          refine Seq.p rfl Ev.assign ?_
          refine Seq.p rfl Ev.assign ?_
          refine Seq.nil ?_
          refine JC.rs ?_
          refine Seq.p rfl Ev.move ?_
          refine Seq.p rfl Ev.ne ?_
          refine Seq.p rfl Ev.move ?_
          refine Seq.orG (D := [103, 104, 105, 106]) (d := 103) (t := 106) (k := 3) (hn := fun h103 => ?_) (hx := ?_)
          · repeat (first | refine Seq.gn rfl rfl rfl rfl ?_ | refine Seq.gu rfl rfl rfl ?_)
            refine Seq.p rfl Ev.pickT ?_
            exact Seq.nil ⟨rfl, (by repeat (first | with_reducible exact Off.refl | refine Off.upd ?_ rfl | exact Off.mix | refine Off.mix2 ?_ rfl)), Look.here⟩
          apply Exists.intro
          refine ⟨fun h103 => ?_, fun u106 => ?_⟩
          · try simp only [decide_eq_true_eq, decide_eq_false_iff_not, Bool.and_eq_true, Bool.or_eq_true, Bool.not_eq_true', Bool.not_eq_false', Bool.or_eq_false_iff, Bool.and_eq_false_imp] at h103
            refine Seq.gy rfl rfl rfl ?_
            refine Seq.p rfl Ev.move ?_
            refine Seq.gy rfl rfl rfl ?_
            refine Seq.p rfl Ev.ne ?_
            refine Seq.p rfl Ev.pickF ?_
            exact Seq.nil ⟨rfl, (by repeat (first | with_reducible exact Off.refl | refine Off.upd ?_ rfl | exact Off.mix | refine Off.mix2 ?_ rfl)), Look.here⟩
          refine Seq.p rfl Ev.move ?_
          refine Seq.orG (D := [107, 108, 109, 110, 111]) (d := 107) (t := 111) (k := 4) (hn := fun h107 => ?_) (hx := ?_)
          · repeat (first | refine Seq.gn rfl rfl rfl rfl ?_ | refine Seq.gu rfl rfl rfl ?_)
            refine Seq.p rfl Ev.pickT ?_
            exact Seq.nil ⟨rfl, (by repeat (first | with_reducible exact Off.refl | refine Off.upd ?_ rfl | exact Off.mix | refine Off.mix2 ?_ rfl)), Look.here⟩
          apply Exists.intro
          refine ⟨fun h107 => ?_, fun u111 => ?_⟩
          · try simp only [decide_eq_true_eq, decide_eq_false_iff_not, Bool.and_eq_true, Bool.or_eq_true, Bool.not_eq_true', Bool.not_eq_false', Bool.or_eq_false_iff, Bool.and_eq_false_imp] at h107
            refine Seq.gy rfl rfl rfl ?_
            refine Seq.p rfl (Ev.ldBA (cs := v.enc) ag.api_Event) ?_
            refine Seq.gy rfl rfl rfl ?_
            refine Seq.p rfl (Ev.ldBA (cs := v.enc) ag.api_Event) ?_
            refine Seq.gy rfl rfl rfl ?_
            refine Seq.p rfl (Ev.neAg so.api_Event ag.api_Event gd.api_Event) ?_
            refine Seq.p rfl Ev.pickF ?_
            exact Seq.nil ⟨rfl, (by repeat (first | with_reducible exact Off.refl | refine Off.upd ?_ rfl | exact Off.mix | refine Off.mix2 ?_ rfl)), Look.here⟩
          refine Seq.p rfl Ev.move ?_
          refine Seq.orG (D := [112, 113, 114, 115, 116]) (d := 112) (t := 116) (k := 4) (hn := fun h112 => ?_) (hx := ?_)
          · repeat (first | refine Seq.gn rfl rfl rfl rfl ?_ | refine Seq.gu rfl rfl rfl ?_)
            refine Seq.p rfl Ev.pickT ?_
            exact Seq.nil ⟨rfl, (by repeat (first | with_reducible exact Off.refl | refine Off.upd ?_ rfl | exact Off.mix | refine Off.mix2 ?_ rfl)), Look.here⟩
          apply Exists.intro
          refine ⟨fun h112 => ?_, fun u116 => ?_⟩
          · try simp only [decide_eq_true_eq, decide_eq_false_iff_not, Bool.and_eq_true, Bool.or_eq_true, Bool.not_eq_true', Bool.not_eq_false', Bool.or_eq_false_iff, Bool.and_eq_false_imp] at h112
            refine Seq.gy rfl rfl rfl ?_
            refine Seq.p rfl (Ev.ldBA (cs := v.enc) ag.api_Event) ?_
            refine Seq.gy rfl rfl rfl ?_
            refine Seq.p rfl (Ev.ldBA (cs := v.enc) ag.api_Event) ?_
            refine Seq.gy rfl rfl rfl ?_
            refine Seq.p rfl (Ev.neAg so.api_Event ag.api_Event gd.api_Event) ?_
            refine Seq.p rfl Ev.pickF ?_
            exact Seq.nil ⟨rfl, (by repeat (first | with_reducible exact Off.refl | refine Off.upd ?_ rfl | exact Off.mix | refine Off.mix2 ?_ rfl)), Look.here⟩
          refine Seq.p rfl Ev.move ?_
          refine Seq.orG (D := [117, 118, 119, 120, 121, 122]) (d := 117) (t := 122) (k := 5) (hn := fun h117 => ?_) (hx := ?_)
          · repeat (first | refine Seq.gn rfl rfl rfl rfl ?_ | refine Seq.gu rfl rfl rfl ?_)
            refine Seq.p rfl Ev.pickT ?_
            exact Seq.nil ⟨rfl, (by repeat (first | with_reducible exact Off.refl | refine Off.upd ?_ rfl | exact Off.mix | refine Off.mix2 ?_ rfl)), Look.here⟩
          apply Exists.intro
          refine ⟨fun h117 => ?_, fun u122 => ?_⟩
          · try simp only [decide_eq_true_eq, decide_eq_false_iff_not, Bool.and_eq_true, Bool.or_eq_true, Bool.not_eq_true', Bool.not_eq_false', Bool.or_eq_false_iff, Bool.and_eq_false_imp] at h117
            refine Seq.gy rfl rfl rfl ?_
            refine Seq.p rfl Ev.move ?_
            refine Seq.gy rfl rfl rfl ?_
            refine Seq.p rfl Ev.move ?_
            refine Seq.gy rfl rfl rfl ?_
            refine Seq.p rfl (Ev.lenSl sl.sl_uint8 (hr := RAt.own (enc := byteEnc) (xs := ql))) ?_
            refine Seq.gy rfl rfl rfl ?_
            refine Seq.p rfl Ev.ne ?_
            refine Seq.p rfl Ev.pickF ?_
            exact Seq.nil ⟨rfl, (by repeat (first | with_reducible exact Off.refl | refine Off.upd ?_ rfl | exact Off.mix | refine Off.mix2 ?_ rfl)), Look.here⟩
          refine Seq.nil ?_
          first | refine JC.c (ht := fun c122 => ?_) (hf := fun c122 => ?_) | refine JC.cb (ht := fun c122 => ?_) (hf := fun c122 => ?_)
          · -- then_t122
            exfalso
            simp [Event.eqL_enc] at c122
          · -- else_t122
            refine JC.skip ?_
            refine JC.rs ?_
            refine Seq.p rfl Ev.assign ?_
            refine Seq.nil ?_
            refine JC.ret ?_
            show retQ _ _ _ _ _ _ _ _
            refine ret1 (hp := Part.nil _) (hpost := ?_)
            rfl
        · -- else_t89
          refine JC.skip ?_
          refine JC.rs ?_
          refine Seq.p rfl Ev.assign ?_
          refine Seq.nil ?_
          refine JC.ret ?_
          show retQ _ _ _ _ _ _ _ _
          refine ret1 (hp := Part.nil _) (hpost := ?_)
          rfl
end Go.Rx
