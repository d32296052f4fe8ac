/- Parts of the proof. -/
import Derived.Test.YthpejgmkiomfhaaGreatDoorPart3
set_option linter.unusedVariables false
set_option linter.unusedSimpArgs false
/- The law bourselaw04.MessageOneForm gives true. -/
namespace Go.Rx
open Go Go.RowKit Go.Lib Go.Proofs.YthpejgmkiomfhaaGreatDoor
set_option linter.unusedVariables false
set_option linter.unusedSimpArgs false
set_option maxHeartbeats 8000000 in
set_option maxRecDepth 100000 in
theorem lawOneForm {w : World} {v : Value} {l : List Int} {k g0 g1 g2 g3 g4 g5 g6 : Int} (hk : 0 ≤ k ∧ k ≤ 255) (hr : RSl byteEnc 1 w [] v l) (hB : isBytes l) (hl : l.length ≤ 140737488351232) (hL : Laid w) :
    Spec Go.Proofs.Tryz.prog 5 #[.agg (frV k g0 g1 g2 g3 g4 g5 g6).toArray, v] w [] (fun u _ => u = .bool true) := by
  obtain ⟨f, hf⟩ : ∃ f : Frame, f = ⟨k, [g0, g1, g2, g3, g4, g5, g6]⟩ := ⟨_, rfl⟩
  have hfk : f.kind = k := by rw [hf]
  obtain ⟨i, e1, hu⟩ : ∃ i e1, unpackF f = (i, e1) := ⟨_, _, rfl⟩
  obtain ⟨ev, e2, hv⟩ : ∃ i e1, unpackEvF f = (i, e1) := ⟨_, _, rfl⟩
  obtain ⟨j, n, d, hp⟩ : ∃ i n ee, readLineF l = (i, n, ee) := ⟨_, _, _, rfl⟩
  obtain ⟨u, m, hh, hq⟩ : ∃ e m ff, evReadF l = (e, m, ff) := ⟨_, _, _, rfl⟩
  have hno1 : ¬ (e1 = 0 ∧ e2 = 0) := by
    rintro ⟨rfl, rfl⟩
    have h1 := (unpack_ok hu).2.2
    have h2 := (evUnpack_ok hv).2
    omega
  have hno2 : ¬ (d = 0 ∧ hh = 0) := by
    rintro ⟨rfl, rfl⟩
    have h1 := (readLine_ok hB hp).2.2.2.2.2
    have h2 := (evRead_ok hB hq).2.2.2.2.2
    rw [h2] at h1
    exact h1 (by decide)
  have sU : ∀ w' : World, Spec Go.Proofs.Tryz.prog 17 #[.agg (frV k g0 g1 g2 g3 g4 g5 g6).toArray] w' [] (fun r _ => r = .tuple #[.agg i.enc.toArray, .int .i64 e1]) := fun w' => by
    have h := msgUnpack (w := w') (k := k) (g0 := g0) (g1 := g1) (g2 := g2) (g3 := g3) (g4 := g4) (g5 := g5) (g6 := g6)
    rw [← hf, hu] at h
    exact h
  have sV : ∀ w' : World, Spec Go.Proofs.Tryz.prog 18 #[.agg (frV k g0 g1 g2 g3 g4 g5 g6).toArray] w' [] (fun r _ => r = .tuple #[.agg ev.enc.toArray, .int .i64 e2]) := fun w' => by
    have h := msgUnpackEv (w := w') (k := k) (g0 := g0) (g1 := g1) (g2 := g2) (g3 := g3) (g4 := g4) (g5 := g5) (g6 := g6) hk
    rw [← hf, hv] at h
    exact h
  have sP : e1 = 0 → ∀ w' : World, Spec Go.Proofs.Tryz.prog 13 #[.agg i.enc.toArray] w' [] (fun r _ => r = .tuple #[.agg (frV k g0 g1 g2 g3 g4 g5 g6).toArray, .int .i64 0]) := fun h0 w' => by
    have h := msgPack (w := w') (i := i)
    rw [(unpack_ok (h0 ▸ hu)).1, hf] at h
    exact h
  have sQ : e2 = 0 → ∀ w' : World, Spec Go.Proofs.Tryz.prog 15 #[.agg ev.enc.toArray] w' [] (fun r _ => r = .tuple #[.agg (frV k g0 g1 g2 g3 g4 g5 g6).toArray, .int .i64 0]) := fun h0 w' => by
    have h := msgPackEv (w := w') (e := ev)
    rw [(evUnpack_ok (h0 ▸ hv)).1, hf] at h
    exact h
  obtain ⟨zz, hsz⟩ : ∃ zz, zz = (readF l).size := ⟨_, rfl⟩
  have okL : d = 0 → j.Wf ∧ lineF j = (0, l.take zz) ∧ n = (zz : Int) ∧ 1 ≤ zz ∧ zz ≤ l.length := fun h0 => by
    obtain ⟨a, b, c, dd, e, _⟩ := readLine_ok hB (h0 ▸ hp)
    rw [← hsz] at b c dd e
    exact ⟨a, b, c, dd, e⟩
  have okV : hh = 0 → u.Wf ∧ evLineF u = (0, l.take zz) ∧ m = (zz : Int) ∧ 1 ≤ zz ∧ zz ≤ l.length := fun h0 => by
    obtain ⟨a, b, c, dd, e, _⟩ := evRead_ok hB (h0 ▸ hq)
    rw [← hsz] at b c dd e
    exact ⟨a, b, c, dd, e⟩
  refine Spec.enter (fn := Go.Proofs.Tryz.f5) (n := 143) [.agg (frV k g0 g1 g2 g3 g4 g5 g6).toArray, v] Go.Proofs.Tryz.func5 (by kernel_rfl) rfl Go.Proofs.Tryz.ntmps5 Go.Proofs.Tryz.results5 rfl (Own.nil _) ?_
  refine JC.rs ?_
  refine Seq.box (cs := [_, _, _, _, _, _, _, _]) (k := ?_); intro b2
  refine Seq.p rfl Ev.assign ?_
  refine Seq.nil ?_
  refine JC.seq ?_
  refine JC.rs ?_
  refine Seq.callP rfl (fun w hw => lawLives (hL.upd hw)) ?_
  refine Seq.p rfl Ev.not ?_
  refine Seq.nil ?_
  first | refine JC.c (ht := fun c24 => ?_) (hf := fun c24 => ?_) | refine JC.cb (ht := fun c24 => ?_) (hf := fun c24 => ?_)
  · -- then_t24
    cases c24
  · -- else_t24
    refine JC.skip ?_
    refine JC.rs ?_
    refine Seq.p rfl (Ev.ldBA (cs := frV k g0 g1 g2 g3 g4 g5 g6) ag.api_Frame) ?_
    refine Seq.callP rfl (fun w' hw => sU w') ?_
    refine Seq.p rfl Ev.move ?_
    refine Seq.p rfl Ev.extract ?_
    refine Seq.p rfl Ev.extract ?_
    refine Seq.alloc (cs := [_, _, _, _, _, _, _, _, _, _, _]) (hz := z.api_Input) (k := ?_); intro b5
    refine Seq.storeTo (cs' := i.enc) sz.api_Input (hH := At.z) (hfit := Nat.le_of_ble_eq_true rfl) (hcs := rfl) (k := ?_)
    refine Seq.p rfl Ev.assign ?_
    refine Seq.nil ?_
    refine JC.rs ?_
    refine Seq.p rfl (Ev.ldBA (cs := frV k g0 g1 g2 g3 g4 g5 g6) ag.api_Frame) ?_
    refine Seq.callP rfl (fun w' hw => sV w') ?_
    refine Seq.p rfl Ev.move ?_
    refine Seq.p rfl Ev.extract ?_
    refine Seq.p rfl Ev.extract ?_
    refine Seq.alloc (cs := [_, _, _, _, _, _, _, _, _, _, _, _, _]) (hz := z.api_Event) (k := ?_); intro b7
    refine Seq.storeTo (cs' := ev.enc) sz.api_Event (hH := At.z) (hfit := Nat.le_of_ble_eq_true rfl) (hcs := rfl) (k := ?_)
    refine Seq.p rfl Ev.assign ?_
    refine Seq.nil ?_
    refine JC.seq ?_
    refine JC.rs ?_
    refine Seq.p rfl Ev.move ?_
    refine Seq.p rfl Ev.eq ?_
    refine Seq.p rfl Ev.move ?_
    refine Seq.andG (D := [37, 38, 39, 40]) (d := 37) (t := 40) (k := 3) (hn := fun h37 => ?_) (hx := ?_)
    · repeat (first | refine Seq.gn rfl rfl rfl rfl ?_ | refine Seq.gu rfl rfl rfl ?_)
      refine Seq.p rfl Ev.pickF ?_
      exact Seq.nil ⟨rfl, (by repeat (first | with_reducible exact Off.refl | refine Off.upd ?_ rfl | exact Off.mix | refine Off.mix2 ?_ rfl)), Look.here⟩
    apply Exists.intro
    refine ⟨fun h37 => ?_, fun u40 => ?_⟩
    · try simp only [decide_eq_true_eq, decide_eq_false_iff_not, Bool.and_eq_true, Bool.or_eq_true, Bool.not_eq_true', Bool.not_eq_false', Bool.or_eq_false_iff, Bool.and_eq_false_imp] at h37
      refine Seq.gy rfl rfl rfl ?_
      refine Seq.p rfl Ev.move ?_
      refine Seq.gy rfl rfl rfl ?_
      refine Seq.p rfl Ev.eq ?_
      refine Seq.p rfl Ev.pickT ?_
      exact Seq.nil ⟨rfl, (by repeat (first | with_reducible exact Off.refl | refine Off.upd ?_ rfl | exact Off.mix | refine Off.mix2 ?_ rfl)), Look.here⟩
    refine Seq.nil ?_
    first | refine JC.c (ht := fun c40 => ?_) (hf := fun c40 => ?_) | refine JC.cb (ht := fun c40 => ?_) (hf := fun c40 => ?_)
    · -- then_t40
      simp only [Bool.and_eq_true, decide_eq_true_eq] at c40
      exact absurd c40 hno1
    · -- else_t40
      refine JC.skip ?_
      refine JC.seq ?_
      refine JC.rs ?_
      refine Seq.p rfl Ev.move ?_
      refine Seq.p rfl Ev.eq ?_
      refine Seq.nil ?_
      first | refine JC.c (ht := fun c42 => ?_) (hf := fun c42 => ?_) | refine JC.cb (ht := fun c42 => ?_) (hf := fun c42 => ?_)
      · -- then_t42
        refine JC.rs ?_
        refine Seq.p rfl (Ev.ldBA (cs := i.enc) ag.api_Input) ?_
        refine Seq.callP rfl (fun w' hw => sP c42 w') ?_
        refine Seq.p rfl Ev.move ?_
        refine Seq.p rfl Ev.extract ?_
        refine Seq.p rfl Ev.extract ?_
        refine Seq.alloc (cs := [_, _, _, _, _, _, _, _]) (hz := z.api_Frame) (k := ?_); intro b9
        refine Seq.storeTo (cs' := frV k g0 g1 g2 g3 g4 g5 g6) sz.api_Frame (hH := At.z) (hfit := Nat.le_of_ble_eq_true rfl) (hcs := rfl) (k := ?_)
        refine Seq.p rfl Ev.assign ?_
        refine Seq.nil ?_
        refine JC.rs ?_
        refine Seq.p rfl Ev.move ?_
        refine Seq.p rfl Ev.ne ?_
        refine Seq.p rfl Ev.move ?_
        refine Seq.orG (D := [50, 51, 52, 53, 54]) (d := 50) (t := 54) (k := 4) (hn := fun h50 => ?_) (hx := ?_)
        · repeat (first | refine Seq.gn rfl rfl rfl rfl ?_ | refine Seq.gu rfl rfl rfl ?_)
          refine Seq.p rfl Ev.pickT ?_
          exact Seq.nil ⟨rfl, (by repeat (first | with_reducible exact Off.refl | refine Off.upd ?_ rfl | exact Off.mix | refine Off.mix2 ?_ rfl)), Look.here⟩
        apply Exists.intro
        refine ⟨fun h50 => ?_, fun u54 => ?_⟩
        · try simp only [decide_eq_true_eq, decide_eq_false_iff_not, Bool.and_eq_true, Bool.or_eq_true, Bool.not_eq_true', Bool.not_eq_false', Bool.or_eq_false_iff, Bool.and_eq_false_imp] at h50
          refine Seq.gy rfl rfl rfl ?_
          refine Seq.p rfl (Ev.ldBA (cs := frV k g0 g1 g2 g3 g4 g5 g6) ag.api_Frame) ?_
          refine Seq.gy rfl rfl rfl ?_
          refine Seq.p rfl (Ev.ldBA (cs := frV k g0 g1 g2 g3 g4 g5 g6) ag.api_Frame) ?_
          refine Seq.gy rfl rfl rfl ?_
          refine Seq.p rfl (Ev.neAg so.api_Frame ag.api_Frame gd.api_Frame) ?_
          refine Seq.p rfl Ev.pickF ?_
          exact Seq.nil ⟨rfl, (by repeat (first | with_reducible exact Off.refl | refine Off.upd ?_ rfl | exact Off.mix | refine Off.mix2 ?_ rfl)), Look.here⟩
        refine Seq.nil ?_
        first | refine JC.c (ht := fun c54 => ?_) (hf := fun c54 => ?_) | refine JC.cb (ht := fun c54 => ?_) (hf := fun c54 => ?_)
        · -- then_t54
          exfalso
          simp [frV, eqL, eqV] at c54
        · -- else_t54
          refine JC.skip ?_
          refine JC.seq ?_
          refine JC.rs ?_
          refine Seq.p rfl Ev.move ?_
          refine Seq.p rfl Ev.eq ?_
          refine Seq.nil ?_
          first | refine JC.c (ht := fun c56 => ?_) (hf := fun c56 => ?_) | refine JC.cb (ht := fun c56 => ?_) (hf := fun c56 => ?_)
          · -- then_t56
            refine JC.rs ?_
            refine Seq.p rfl (Ev.ldBA (cs := ev.enc) ag.api_Event) ?_
            refine Seq.callP rfl (fun w' hw => sQ c56 w') ?_
            refine Seq.p rfl Ev.move ?_
            refine Seq.p rfl Ev.extract ?_
            refine Seq.p rfl Ev.extract ?_
            refine Seq.alloc (cs := [_, _, _, _, _, _, _, _]) (hz := z.api_Frame) (k := ?_); intro b11
            refine Seq.storeTo (cs' := frV k g0 g1 g2 g3 g4 g5 g6) sz.api_Frame (hH := At.z) (hfit := Nat.le_of_ble_eq_true rfl) (hcs := rfl) (k := ?_)
            refine Seq.p rfl Ev.assign ?_
            refine Seq.nil ?_
            refine JC.rs ?_
            refine Seq.p rfl Ev.move ?_
            refine Seq.p rfl Ev.ne ?_
            refine Seq.p rfl Ev.move ?_
            refine Seq.orG (D := [64, 65, 66, 67, 68]) (d := 64) (t := 68) (k := 4) (hn := fun h64 => ?_) (hx := ?_)
            · repeat (first | refine Seq.gn rfl rfl rfl rfl ?_ | refine Seq.gu rfl rfl rfl ?_)
              refine Seq.p rfl Ev.pickT ?_
              exact Seq.nil ⟨rfl, (by repeat (first | with_reducible exact Off.refl | refine Off.upd ?_ rfl | exact Off.mix | refine Off.mix2 ?_ rfl)), Look.here⟩
            apply Exists.intro
            refine ⟨fun h64 => ?_, fun u68 => ?_⟩
            · try simp only [decide_eq_true_eq, decide_eq_false_iff_not, Bool.and_eq_true, Bool.or_eq_true, Bool.not_eq_true', Bool.not_eq_false', Bool.or_eq_false_iff, Bool.and_eq_false_imp] at h64
              refine Seq.gy rfl rfl rfl ?_
              refine Seq.p rfl (Ev.ldBA (cs := frV k g0 g1 g2 g3 g4 g5 g6) ag.api_Frame) ?_
              refine Seq.gy rfl rfl rfl ?_
              refine Seq.p rfl (Ev.ldBA (cs := frV k g0 g1 g2 g3 g4 g5 g6) ag.api_Frame) ?_
              refine Seq.gy rfl rfl rfl ?_
              refine Seq.p rfl (Ev.neAg so.api_Frame ag.api_Frame gd.api_Frame) ?_
              refine Seq.p rfl Ev.pickF ?_
              exact Seq.nil ⟨rfl, (by repeat (first | with_reducible exact Off.refl | refine Off.upd ?_ rfl | exact Off.mix | refine Off.mix2 ?_ rfl)), Look.here⟩
            refine Seq.nil ?_
            first | refine JC.c (ht := fun c68 => ?_) (hf := fun c68 => ?_) | refine JC.cb (ht := fun c68 => ?_) (hf := fun c68 => ?_)
            · -- then_t68
              exfalso
              simp [frV, eqL, eqV] at c68
            · -- else_t68
              refine JC.skip ?_
              refine JC.rs ?_
              refine Seq.p rfl Ev.move ?_
              refine Seq.callP rfl (v := .tuple #[.agg j.enc.toArray, .int .i64 n, .int .i64 d]) (fun w' hw => by have h := msgReadLine (hr.up hw) hB (by omega) (hL.upd hw); rw [hp] at h; exact h) ?_
              refine Seq.p rfl Ev.move ?_
              refine Seq.p rfl Ev.extract ?_
              refine Seq.p rfl Ev.extract ?_
              refine Seq.p rfl Ev.extract ?_
              refine Seq.alloc (cs := [_, _, _, _, _, _, _, _, _, _, _]) (hz := z.api_Input) (k := ?_); intro b13
              refine Seq.storeTo (cs' := j.enc) sz.api_Input (hH := At.z) (hfit := Nat.le_of_ble_eq_true rfl) (hcs := rfl) (k := ?_)
              refine Seq.p rfl Ev.assign ?_
              refine Seq.p rfl Ev.assign ?_
              refine Seq.nil ?_
              refine JC.rs ?_
              refine Seq.p rfl Ev.move ?_
              refine Seq.callP rfl (v := .tuple #[.agg u.enc.toArray, .int .i64 m, .int .i64 hh]) (fun w' hw => by have h := msgReadEvent (hr.up hw) hB (by omega) (hL.upd hw); rw [hq] at h; exact h) ?_
              refine Seq.p rfl Ev.move ?_
              refine Seq.p rfl Ev.extract ?_
              refine Seq.p rfl Ev.extract ?_
              refine Seq.p rfl Ev.extract ?_
              refine Seq.alloc (cs := [_, _, _, _, _, _, _, _, _, _, _, _, _]) (hz := z.api_Event) (k := ?_); intro b16
              refine Seq.storeTo (cs' := u.enc) sz.api_Event (hH := At.z) (hfit := Nat.le_of_ble_eq_true rfl) (hcs := rfl) (k := ?_)
              refine Seq.p rfl Ev.assign ?_
              refine Seq.p rfl Ev.assign ?_
              refine Seq.nil ?_
              refine JC.seq ?_
              refine JC.rs ?_
              refine Seq.p rfl Ev.move ?_
              refine Seq.p rfl Ev.eq ?_
              refine Seq.p rfl Ev.move ?_
              refine Seq.andG (D := [83, 84, 85, 86]) (d := 83) (t := 86) (k := 3) (hn := fun h83 => ?_) (hx := ?_)
              · repeat (first | refine Seq.gn rfl rfl rfl rfl ?_ | refine Seq.gu rfl rfl rfl ?_)
                refine Seq.p rfl Ev.pickF ?_
                exact Seq.nil ⟨rfl, (by repeat (first | with_reducible exact Off.refl | refine Off.upd ?_ rfl | exact Off.mix | refine Off.mix2 ?_ rfl)), Look.here⟩
              apply Exists.intro
              refine ⟨fun h83 => ?_, fun u86 => ?_⟩
              · try simp only [decide_eq_true_eq, decide_eq_false_iff_not, Bool.and_eq_true, Bool.or_eq_true, Bool.not_eq_true', Bool.not_eq_false', Bool.or_eq_false_iff, Bool.and_eq_false_imp] at h83
                refine Seq.gy rfl rfl rfl ?_
                refine Seq.p rfl Ev.move ?_
                refine Seq.gy rfl rfl rfl ?_
                refine Seq.p rfl Ev.eq ?_
                refine Seq.p rfl Ev.pickT ?_
                exact Seq.nil ⟨rfl, (by repeat (first | with_reducible exact Off.refl | refine Off.upd ?_ rfl | exact Off.mix | refine Off.mix2 ?_ rfl)), Look.here⟩
              refine Seq.nil ?_
              first | refine JC.c (ht := fun c86 => ?_) (hf := fun c86 => ?_) | refine JC.cb (ht := fun c86 => ?_) (hf := fun c86 => ?_)
              · -- then_t86
                simp only [Bool.and_eq_true, decide_eq_true_eq] at c86
                exact absurd c86 hno2
              · -- else_t86
                refine JC.skip ?_
                refine JC.seq ?_
                refine JC.rs ?_
                refine Seq.p rfl Ev.move ?_
                refine Seq.p rfl Ev.eq ?_
                refine Seq.nil ?_
                first | refine JC.c (ht := fun c88 => ?_) (hf := fun c88 => ?_) | refine JC.cb (ht := fun c88 => ?_) (hf := fun c88 => ?_)
                · -- then_t88
                  obtain ⟨hjw, hjl, hn, hs1, hs2⟩ := okL c88
                  subst hn
                  refine JC.rs ?_
                  refine Seq.p rfl (Ev.ldBA (cs := j.enc) ag.api_Input) ?_
                  refine Seq.call rfl (fun w' hw => by have h := msgLine (w := w') hjw (hL.t.upd hw); rw [hjl] at h; exact h) (F := _) (by exact List.Perm.refl _) ?_
                  rintro _ _ ⟨A91, c91, rfl, rfl⟩
                  simp only [List.cons_append, List.nil_append]
                  refine Seq.p rfl Ev.move ?_
                  refine Seq.p rfl Ev.extract ?_
                  refine Seq.p rfl Ev.extract ?_
                  refine Seq.p rfl Ev.assign ?_
                  refine Seq.p rfl Ev.assign ?_
                  refine Seq.nil ?_
                  refine JC.qs mixed (by kernel_rfl) ?_
                  refine Qui.p rfl Ev.move ?_
                  refine Qui.p rfl Ev.ne ?_
                  refine Qui.p rfl Ev.move ?_
                  refine Qui.orG (D := [96, 97, 98, 99]) (d := 96) (t := 99) (k := 3) (hn := fun h96 => ?_) (hx := ?_)
                  · repeat (first | refine Qui.gn rfl rfl rfl rfl ?_ | refine Qui.gu rfl rfl rfl ?_)
                    refine Qui.p rfl Ev.pickT ?_
                    exact Qui.nil ⟨(by repeat (first | with_reducible exact Off.refl | refine Off.upd ?_ rfl | exact Off.mix | refine Off.mix2 ?_ rfl)), Look.here⟩
                  apply Exists.intro
                  refine ⟨fun h96 => ?_, fun u99 => ?_⟩
                  · try simp only [decide_eq_true_eq, decide_eq_false_iff_not, Bool.and_eq_true, Bool.or_eq_true, Bool.not_eq_true', Bool.not_eq_false', Bool.or_eq_false_iff, Bool.and_eq_false_imp] at h96
                    refine Qui.gy rfl rfl rfl ?_
                    refine Qui.p rfl Ev.move ?_
                    refine Qui.gy rfl rfl rfl ?_
                    refine Qui.p rfl Ev.lt ?_
                    refine Qui.p rfl Ev.pickF ?_
                    exact Qui.nil ⟨(by repeat (first | with_reducible exact Off.refl | refine Off.upd ?_ rfl | exact Off.mix | refine Off.mix2 ?_ rfl)), Look.here⟩
                  refine Qui.p rfl Ev.move ?_
                  refine Qui.orG (D := [100, 101, 102, 103, 104, 105]) (d := 100) (t := 105) (k := 5) (hn := fun h100 => ?_) (hx := ?_)
                  · repeat (first | refine Qui.gn rfl rfl rfl rfl ?_ | refine Qui.gu rfl rfl rfl ?_)
                    refine Qui.p rfl Ev.pickT ?_
                    exact Qui.nil ⟨(by repeat (first | with_reducible exact Off.refl | refine Off.upd ?_ rfl | exact Off.mix | refine Off.mix2 ?_ rfl)), Look.here⟩
                  apply Exists.intro
                  refine ⟨fun h100 => ?_, fun u105 => ?_⟩
                  · try simp only [decide_eq_true_eq, decide_eq_false_iff_not, Bool.and_eq_true, Bool.or_eq_true, Bool.not_eq_true', Bool.not_eq_false', Bool.or_eq_false_iff, Bool.and_eq_false_imp] at h100
                    refine Qui.gy rfl rfl rfl ?_
                    refine Qui.p rfl Ev.move ?_
                    refine Qui.gy rfl rfl rfl ?_
                    refine Qui.p rfl Ev.move ?_
                    refine Qui.gy rfl rfl rfl ?_
                    refine Qui.p rfl (Ev.lenSl sl.sl_uint8 (hr := hr.r)) ?_
                    refine Qui.gy rfl rfl rfl ?_
                    refine Qui.p rfl Ev.gt ?_
                    refine Qui.p rfl Ev.pickF ?_
                    exact Qui.nil ⟨(by repeat (first | with_reducible exact Off.refl | refine Off.upd ?_ rfl | exact Off.mix | refine Off.mix2 ?_ rfl)), Look.here⟩
                  refine Qui.p rfl Ev.move ?_
                  refine Qui.orG (D := [106, 107, 108, 109, 110, 111, 112, 113, 114]) (d := 106) (t := 114) (k := 8) (hn := fun h106 => ?_) (hx := ?_)
                  · repeat (first | refine Qui.gn rfl rfl rfl rfl ?_ | refine Qui.gu rfl rfl rfl ?_)
                    refine Qui.p rfl Ev.pickT ?_
                    exact Qui.nil ⟨(by repeat (first | with_reducible exact Off.refl | refine Off.upd ?_ rfl | exact Off.mix | refine Off.mix2 ?_ rfl)), Look.here⟩
                  apply Exists.intro
                  refine ⟨fun h106 => ?_, fun u114 => ?_⟩
                  · try simp only [decide_eq_true_eq, decide_eq_false_iff_not, Bool.and_eq_true, Bool.or_eq_true, Bool.not_eq_true', Bool.not_eq_false', Bool.or_eq_false_iff, Bool.and_eq_false_imp] at h106
                    refine Qui.gy rfl rfl rfl ?_
                    refine Qui.p rfl Ev.move ?_
                    refine Qui.gy rfl rfl rfl ?_
                    refine Qui.p rfl (Ev.strOf (l := l.take zz) sl.sl_uint8 it.uint8 st.string (hr := RAt.own (enc := byteEnc) (xs := l.take zz) (hs := by rw [List.length_take]; omega))) ?_
                    refine Qui.gy rfl rfl rfl ?_
                    refine Qui.p rfl Ev.move ?_
                    refine Qui.gy rfl rfl rfl ?_
                    refine Qui.p rfl Ev.move ?_
                    refine Qui.gy rfl rfl rfl ?_
                    refine Qui.p rfl (Ev.cut sl.sl_uint8 (hr := hr.r) (l := 0) (h := zz) (hlo := rfl) (hhi := ⟨_, (by repeat (first | exact Look.here | apply Look.there (hne := rfl) | exact Look.const | apply Look.mix rfl | exact Look.arg0 | apply Look.args | exact Look.func))⟩)) ?_
                    refine Qui.gy rfl rfl rfl ?_
                    refine Qui.p rfl (Ev.strOf (l := l.take zz) sl.sl_uint8 it.uint8 st.string (hr := (hr.sub (lo := 0) (hi := zz) (by omega) hs2).r)) ?_
                    refine Qui.gy rfl rfl rfl ?_
                    refine Qui.p rfl Ev.neStr ?_
                    refine Qui.p rfl Ev.pickF ?_
                    exact Qui.nil ⟨(by repeat (first | with_reducible exact Off.refl | refine Off.upd ?_ rfl | exact Off.mix | refine Off.mix2 ?_ rfl)), Look.here⟩
                  refine Qui.nil ?_
                  first | refine JC.c (ht := fun c114 => ?_) (hf := fun c114 => ?_) | refine JC.cb (ht := fun c114 => ?_) (hf := fun c114 => ?_)
                  · -- then_t114
                    exfalso
                    simp at c114
                    omega
                  · -- else_t114
                    refine JC.skip ?_
                    refine JC.seq ?_
                    refine JC.rs ?_
                    refine Seq.p rfl Ev.move ?_
                    refine Seq.p rfl Ev.eq ?_
                    refine Seq.nil ?_
                    first | refine JC.c (ht := fun c116 => ?_) (hf := fun c116 => ?_) | refine JC.cb (ht := fun c116 => ?_) (hf := fun c116 => ?_)
                    · -- then_t116
                      obtain ⟨huw, hul, hm, hs1, hs2⟩ := okV c116
                      subst hm
                      refine JC.rs ?_
                      refine Seq.p rfl (Ev.ldBA (cs := u.enc) ag.api_Event) ?_
                      refine Seq.call rfl (fun w' hw => by have h := msgEventLine (w := w') huw (hL.t.upd hw); rw [hul] at h; exact h) (F := _) (by exact List.Perm.refl _) ?_
                      rintro _ _ ⟨A119, c119, rfl, rfl⟩
                      simp only [List.cons_append, List.nil_append]
                      refine Seq.p rfl Ev.move ?_
                      refine Seq.p rfl Ev.extract ?_
                      refine Seq.p rfl Ev.extract ?_
                      refine Seq.p rfl Ev.assign ?_
                      refine Seq.p rfl Ev.assign ?_
                      refine Seq.nil ?_
                      refine JC.qs mixed (by kernel_rfl) ?_
                      refine Qui.p rfl Ev.move ?_
                      refine Qui.p rfl Ev.ne ?_
                      refine Qui.p rfl Ev.move ?_
                      refine Qui.orG (D := [124, 125, 126, 127]) (d := 124) (t := 127) (k := 3) (hn := fun h124 => ?_) (hx := ?_)
                      · repeat (first | refine Qui.gn rfl rfl rfl rfl ?_ | refine Qui.gu rfl rfl rfl ?_)
                        refine Qui.p rfl Ev.pickT ?_
                        exact Qui.nil ⟨(by repeat (first | with_reducible exact Off.refl | refine Off.upd ?_ rfl | exact Off.mix | refine Off.mix2 ?_ rfl)), Look.here⟩
                      apply Exists.intro
                      refine ⟨fun h124 => ?_, fun u127 => ?_⟩
                      · try simp only [decide_eq_true_eq, decide_eq_false_iff_not, Bool.and_eq_true, Bool.or_eq_true, Bool.not_eq_true', Bool.not_eq_false', Bool.or_eq_false_iff, Bool.and_eq_false_imp] at h124
                        refine Qui.gy rfl rfl rfl ?_
                        refine Qui.p rfl Ev.move ?_
                        refine Qui.gy rfl rfl rfl ?_
                        refine Qui.p rfl Ev.lt ?_
                        refine Qui.p rfl Ev.pickF ?_
                        exact Qui.nil ⟨(by repeat (first | with_reducible exact Off.refl | refine Off.upd ?_ rfl | exact Off.mix | refine Off.mix2 ?_ rfl)), Look.here⟩
                      refine Qui.p rfl Ev.move ?_
                      refine Qui.orG (D := [128, 129, 130, 131, 132, 133]) (d := 128) (t := 133) (k := 5) (hn := fun h128 => ?_) (hx := ?_)
                      · repeat (first | refine Qui.gn rfl rfl rfl rfl ?_ | refine Qui.gu rfl rfl rfl ?_)
                        refine Qui.p rfl Ev.pickT ?_
                        exact Qui.nil ⟨(by repeat (first | with_reducible exact Off.refl | refine Off.upd ?_ rfl | exact Off.mix | refine Off.mix2 ?_ rfl)), Look.here⟩
                      apply Exists.intro
                      refine ⟨fun h128 => ?_, fun u133 => ?_⟩
                      · try simp only [decide_eq_true_eq, decide_eq_false_iff_not, Bool.and_eq_true, Bool.or_eq_true, Bool.not_eq_true', Bool.not_eq_false', Bool.or_eq_false_iff, Bool.and_eq_false_imp] at h128
                        refine Qui.gy rfl rfl rfl ?_
                        refine Qui.p rfl Ev.move ?_
                        refine Qui.gy rfl rfl rfl ?_
                        refine Qui.p rfl Ev.move ?_
                        refine Qui.gy rfl rfl rfl ?_
                        refine Qui.p rfl (Ev.lenSl sl.sl_uint8 (hr := hr.r)) ?_
                        refine Qui.gy rfl rfl rfl ?_
                        refine Qui.p rfl Ev.gt ?_
                        refine Qui.p rfl Ev.pickF ?_
                        exact Qui.nil ⟨(by repeat (first | with_reducible exact Off.refl | refine Off.upd ?_ rfl | exact Off.mix | refine Off.mix2 ?_ rfl)), Look.here⟩
                      refine Qui.p rfl Ev.move ?_
                      refine Qui.orG (D := [134, 135, 136, 137, 138, 139, 140, 141, 142]) (d := 134) (t := 142) (k := 8) (hn := fun h134 => ?_) (hx := ?_)
                      · repeat (first | refine Qui.gn rfl rfl rfl rfl ?_ | refine Qui.gu rfl rfl rfl ?_)
                        refine Qui.p rfl Ev.pickT ?_
                        exact Qui.nil ⟨(by repeat (first | with_reducible exact Off.refl | refine Off.upd ?_ rfl | exact Off.mix | refine Off.mix2 ?_ rfl)), Look.here⟩
                      apply Exists.intro
                      refine ⟨fun h134 => ?_, fun u142 => ?_⟩
                      · try simp only [decide_eq_true_eq, decide_eq_false_iff_not, Bool.and_eq_true, Bool.or_eq_true, Bool.not_eq_true', Bool.not_eq_false', Bool.or_eq_false_iff, Bool.and_eq_false_imp] at h134
                        refine Qui.gy rfl rfl rfl ?_
                        refine Qui.p rfl Ev.move ?_
                        refine Qui.gy rfl rfl rfl ?_
                        refine Qui.p rfl (Ev.strOf (l := l.take zz) sl.sl_uint8 it.uint8 st.string (hr := RAt.own (enc := byteEnc) (xs := l.take zz) (hs := by rw [List.length_take]; omega))) ?_
                        refine Qui.gy rfl rfl rfl ?_
                        refine Qui.p rfl Ev.move ?_
                        refine Qui.gy rfl rfl rfl ?_
                        refine Qui.p rfl Ev.move ?_
                        refine Qui.gy rfl rfl rfl ?_
                        refine Qui.p rfl (Ev.cut sl.sl_uint8 (hr := hr.r) (l := 0) (h := zz) (hlo := rfl) (hhi := ⟨_, (by repeat (first | exact Look.here | apply Look.there (hne := rfl) | exact Look.const | apply Look.mix rfl | exact Look.arg0 | apply Look.args | exact Look.func))⟩)) ?_
                        refine Qui.gy rfl rfl rfl ?_
                        refine Qui.p rfl (Ev.strOf (l := l.take zz) sl.sl_uint8 it.uint8 st.string (hr := (hr.sub (lo := 0) (hi := zz) (by omega) hs2).r)) ?_
                        refine Qui.gy rfl rfl rfl ?_
                        refine Qui.p rfl Ev.neStr ?_
                        refine Qui.p rfl Ev.pickF ?_
                        exact Qui.nil ⟨(by repeat (first | with_reducible exact Off.refl | refine Off.upd ?_ rfl | exact Off.mix | refine Off.mix2 ?_ rfl)), Look.here⟩
                      refine Qui.nil ?_
                      first | refine JC.c (ht := fun c142 => ?_) (hf := fun c142 => ?_) | refine JC.cb (ht := fun c142 => ?_) (hf := fun c142 => ?_)
                      · -- then_t142
                        exfalso
                        simp at c142
                        omega
                      · -- else_t142
                        refine JC.skip ?_
                        refine JC.rs ?_
                        refine Seq.p rfl Ev.assign ?_
                        refine Seq.nil ?_
                        refine JC.ret ?_
                        show retQ _ _ _ _ _ _ _ _
                        refine ret1 (hp := Part.nil _) (hpost := ?_)
                        rfl
                    · -- else_t116
                      refine JC.skip ?_
                      refine JC.rs ?_
                      refine Seq.p rfl Ev.assign ?_
                      refine Seq.nil ?_
                      refine JC.ret ?_
                      show retQ _ _ _ _ _ _ _ _
                      refine ret1 (hp := Part.nil _) (hpost := ?_)
                      rfl
                · -- else_t88
                  refine JC.skip ?_
                  refine JC.seq ?_
                  refine JC.rs ?_
                  refine Seq.p rfl Ev.move ?_
                  refine Seq.p rfl Ev.eq ?_
                  refine Seq.nil ?_
                  first | refine JC.c (ht := fun c116 => ?_) (hf := fun c116 => ?_) | refine JC.cb (ht := fun c116 => ?_) (hf := fun c116 => ?_)
                  · -- then_t116
                    obtain ⟨huw, hul, hm, hs1, hs2⟩ := okV c116
                    subst hm
                    refine JC.rs ?_
                    refine Seq.p rfl (Ev.ldBA (cs := u.enc) ag.api_Event) ?_
                    refine Seq.call rfl (fun w' hw => by have h := msgEventLine (w := w') huw (hL.t.upd hw); rw [hul] at h; exact h) (F := _) (by exact List.Perm.refl _) ?_
                    rintro _ _ ⟨A119, c119, rfl, rfl⟩
                    simp only [List.cons_append, List.nil_append]
                    refine Seq.p rfl Ev.move ?_
                    refine Seq.p rfl Ev.extract ?_
                    refine Seq.p rfl Ev.extract ?_
                    refine Seq.p rfl Ev.assign ?_
                    refine Seq.p rfl Ev.assign ?_
                    refine Seq.nil ?_
                    refine JC.qs mixed (by kernel_rfl) ?_
                    refine Qui.p rfl Ev.move ?_
                    refine Qui.p rfl Ev.ne ?_
                    refine Qui.p rfl Ev.move ?_
                    refine Qui.orG (D := [124, 125, 126, 127]) (d := 124) (t := 127) (k := 3) (hn := fun h124 => ?_) (hx := ?_)
                    · repeat (first | refine Qui.gn rfl rfl rfl rfl ?_ | refine Qui.gu rfl rfl rfl ?_)
                      refine Qui.p rfl Ev.pickT ?_
                      exact Qui.nil ⟨(by repeat (first | with_reducible exact Off.refl | refine Off.upd ?_ rfl | exact Off.mix | refine Off.mix2 ?_ rfl)), Look.here⟩
                    apply Exists.intro
                    refine ⟨fun h124 => ?_, fun u127 => ?_⟩
                    · try simp only [decide_eq_true_eq, decide_eq_false_iff_not, Bool.and_eq_true, Bool.or_eq_true, Bool.not_eq_true', Bool.not_eq_false', Bool.or_eq_false_iff, Bool.and_eq_false_imp] at h124
                      refine Qui.gy rfl rfl rfl ?_
                      refine Qui.p rfl Ev.move ?_
                      refine Qui.gy rfl rfl rfl ?_
                      refine Qui.p rfl Ev.lt ?_
                      refine Qui.p rfl Ev.pickF ?_
                      exact Qui.nil ⟨(by repeat (first | with_reducible exact Off.refl | refine Off.upd ?_ rfl | exact Off.mix | refine Off.mix2 ?_ rfl)), Look.here⟩
                    refine Qui.p rfl Ev.move ?_
                    refine Qui.orG (D := [128, 129, 130, 131, 132, 133]) (d := 128) (t := 133) (k := 5) (hn := fun h128 => ?_) (hx := ?_)
                    · repeat (first | refine Qui.gn rfl rfl rfl rfl ?_ | refine Qui.gu rfl rfl rfl ?_)
                      refine Qui.p rfl Ev.pickT ?_
                      exact Qui.nil ⟨(by repeat (first | with_reducible exact Off.refl | refine Off.upd ?_ rfl | exact Off.mix | refine Off.mix2 ?_ rfl)), Look.here⟩
                    apply Exists.intro
                    refine ⟨fun h128 => ?_, fun u133 => ?_⟩
                    · try simp only [decide_eq_true_eq, decide_eq_false_iff_not, Bool.and_eq_true, Bool.or_eq_true, Bool.not_eq_true', Bool.not_eq_false', Bool.or_eq_false_iff, Bool.and_eq_false_imp] at h128
                      refine Qui.gy rfl rfl rfl ?_
                      refine Qui.p rfl Ev.move ?_
                      refine Qui.gy rfl rfl rfl ?_
                      refine Qui.p rfl Ev.move ?_
                      refine Qui.gy rfl rfl rfl ?_
                      refine Qui.p rfl (Ev.lenSl sl.sl_uint8 (hr := hr.r)) ?_
                      refine Qui.gy rfl rfl rfl ?_
                      refine Qui.p rfl Ev.gt ?_
                      refine Qui.p rfl Ev.pickF ?_
                      exact Qui.nil ⟨(by repeat (first | with_reducible exact Off.refl | refine Off.upd ?_ rfl | exact Off.mix | refine Off.mix2 ?_ rfl)), Look.here⟩
                    refine Qui.p rfl Ev.move ?_
                    refine Qui.orG (D := [134, 135, 136, 137, 138, 139, 140, 141, 142]) (d := 134) (t := 142) (k := 8) (hn := fun h134 => ?_) (hx := ?_)
                    · repeat (first | refine Qui.gn rfl rfl rfl rfl ?_ | refine Qui.gu rfl rfl rfl ?_)
                      refine Qui.p rfl Ev.pickT ?_
                      exact Qui.nil ⟨(by repeat (first | with_reducible exact Off.refl | refine Off.upd ?_ rfl | exact Off.mix | refine Off.mix2 ?_ rfl)), Look.here⟩
                    apply Exists.intro
                    refine ⟨fun h134 => ?_, fun u142 => ?_⟩
                    · try simp only [decide_eq_true_eq, decide_eq_false_iff_not, Bool.and_eq_true, Bool.or_eq_true, Bool.not_eq_true', Bool.not_eq_false', Bool.or_eq_false_iff, Bool.and_eq_false_imp] at h134
                      refine Qui.gy rfl rfl rfl ?_
                      refine Qui.p rfl Ev.move ?_
                      refine Qui.gy rfl rfl rfl ?_
                      refine Qui.p rfl (Ev.strOf (l := l.take zz) sl.sl_uint8 it.uint8 st.string (hr := RAt.own (enc := byteEnc) (xs := l.take zz) (hs := by rw [List.length_take]; omega))) ?_
                      refine Qui.gy rfl rfl rfl ?_
                      refine Qui.p rfl Ev.move ?_
                      refine Qui.gy rfl rfl rfl ?_
                      refine Qui.p rfl Ev.move ?_
                      refine Qui.gy rfl rfl rfl ?_
                      refine Qui.p rfl (Ev.cut sl.sl_uint8 (hr := hr.r) (l := 0) (h := zz) (hlo := rfl) (hhi := ⟨_, (by repeat (first | exact Look.here | apply Look.there (hne := rfl) | exact Look.const | apply Look.mix rfl | exact Look.arg0 | apply Look.args | exact Look.func))⟩)) ?_
                      refine Qui.gy rfl rfl rfl ?_
                      refine Qui.p rfl (Ev.strOf (l := l.take zz) sl.sl_uint8 it.uint8 st.string (hr := (hr.sub (lo := 0) (hi := zz) (by omega) hs2).r)) ?_
                      refine Qui.gy rfl rfl rfl ?_
                      refine Qui.p rfl Ev.neStr ?_
                      refine Qui.p rfl Ev.pickF ?_
                      exact Qui.nil ⟨(by repeat (first | with_reducible exact Off.refl | refine Off.upd ?_ rfl | exact Off.mix | refine Off.mix2 ?_ rfl)), Look.here⟩
                    refine Qui.nil ?_
                    first | refine JC.c (ht := fun c142 => ?_) (hf := fun c142 => ?_) | refine JC.cb (ht := fun c142 => ?_) (hf := fun c142 => ?_)
                    · -- then_t142
                      exfalso
                      simp at c142
                      omega
                    · -- else_t142
                      refine JC.skip ?_
                      refine JC.rs ?_
                      refine Seq.p rfl Ev.assign ?_
                      refine Seq.nil ?_
                      refine JC.ret ?_
                      show retQ _ _ _ _ _ _ _ _
                      refine ret1 (hp := Part.nil _) (hpost := ?_)
                      rfl
                  · -- else_t116
                    refine JC.skip ?_
                    refine JC.rs ?_
                    refine Seq.p rfl Ev.assign ?_
                    refine Seq.nil ?_
                    refine JC.ret ?_
                    show retQ _ _ _ _ _ _ _ _
                    refine ret1 (hp := Part.nil _) (hpost := ?_)
                    rfl
          · -- else_t56
            refine JC.skip ?_
            refine JC.rs ?_
            refine Seq.p rfl Ev.move ?_
            refine Seq.callP rfl (v := .tuple #[.agg j.enc.toArray, .int .i64 n, .int .i64 d]) (fun w' hw => by have h := msgReadLine (hr.up hw) hB (by omega) (hL.upd hw); rw [hp] at h; exact h) ?_
            refine Seq.p rfl Ev.move ?_
            refine Seq.p rfl Ev.extract ?_
            refine Seq.p rfl Ev.extract ?_
            refine Seq.p rfl Ev.extract ?_
            refine Seq.alloc (cs := [_, _, _, _, _, _, _, _, _, _, _]) (hz := z.api_Input) (k := ?_); intro b13
            refine Seq.storeTo (cs' := j.enc) sz.api_Input (hH := At.z) (hfit := Nat.le_of_ble_eq_true rfl) (hcs := rfl) (k := ?_)
            refine Seq.p rfl Ev.assign ?_
            refine Seq.p rfl Ev.assign ?_
            refine Seq.nil ?_
            refine JC.rs ?_
            refine Seq.p rfl Ev.move ?_
            refine Seq.callP rfl (v := .tuple #[.agg u.enc.toArray, .int .i64 m, .int .i64 hh]) (fun w' hw => by have h := msgReadEvent (hr.up hw) hB (by omega) (hL.upd hw); rw [hq] at h; exact h) ?_
            refine Seq.p rfl Ev.move ?_
            refine Seq.p rfl Ev.extract ?_
            refine Seq.p rfl Ev.extract ?_
            refine Seq.p rfl Ev.extract ?_
            refine Seq.alloc (cs := [_, _, _, _, _, _, _, _, _, _, _, _, _]) (hz := z.api_Event) (k := ?_); intro b16
            refine Seq.storeTo (cs' := u.enc) sz.api_Event (hH := At.z) (hfit := Nat.le_of_ble_eq_true rfl) (hcs := rfl) (k := ?_)
            refine Seq.p rfl Ev.assign ?_
            refine Seq.p rfl Ev.assign ?_
            refine Seq.nil ?_
            refine JC.seq ?_
            refine JC.rs ?_
            refine Seq.p rfl Ev.move ?_
            refine Seq.p rfl Ev.eq ?_
            refine Seq.p rfl Ev.move ?_
            refine Seq.andG (D := [83, 84, 85, 86]) (d := 83) (t := 86) (k := 3) (hn := fun h83 => ?_) (hx := ?_)
            · repeat (first | refine Seq.gn rfl rfl rfl rfl ?_ | refine Seq.gu rfl rfl rfl ?_)
              refine Seq.p rfl Ev.pickF ?_
              exact Seq.nil ⟨rfl, (by repeat (first | with_reducible exact Off.refl | refine Off.upd ?_ rfl | exact Off.mix | refine Off.mix2 ?_ rfl)), Look.here⟩
            apply Exists.intro
            refine ⟨fun h83 => ?_, fun u86 => ?_⟩
            · try simp only [decide_eq_true_eq, decide_eq_false_iff_not, Bool.and_eq_true, Bool.or_eq_true, Bool.not_eq_true', Bool.not_eq_false', Bool.or_eq_false_iff, Bool.and_eq_false_imp] at h83
              refine Seq.gy rfl rfl rfl ?_
              refine Seq.p rfl Ev.move ?_
              refine Seq.gy rfl rfl rfl ?_
              refine Seq.p rfl Ev.eq ?_
              refine Seq.p rfl Ev.pickT ?_
              exact Seq.nil ⟨rfl, (by repeat (first | with_reducible exact Off.refl | refine Off.upd ?_ rfl | exact Off.mix | refine Off.mix2 ?_ rfl)), Look.here⟩
            refine Seq.nil ?_
            first | refine JC.c (ht := fun c86 => ?_) (hf := fun c86 => ?_) | refine JC.cb (ht := fun c86 => ?_) (hf := fun c86 => ?_)
            · -- then_t86
              simp only [Bool.and_eq_true, decide_eq_true_eq] at c86
              exact absurd c86 hno2
            · -- else_t86
              refine JC.skip ?_
              refine JC.seq ?_
              refine JC.rs ?_
              refine Seq.p rfl Ev.move ?_
              refine Seq.p rfl Ev.eq ?_
              refine Seq.nil ?_
              first | refine JC.c (ht := fun c88 => ?_) (hf := fun c88 => ?_) | refine JC.cb (ht := fun c88 => ?_) (hf := fun c88 => ?_)
              · -- then_t88
                obtain ⟨hjw, hjl, hn, hs1, hs2⟩ := okL c88
                subst hn
                refine JC.rs ?_
                refine Seq.p rfl (Ev.ldBA (cs := j.enc) ag.api_Input) ?_
                refine Seq.call rfl (fun w' hw => by have h := msgLine (w := w') hjw (hL.t.upd hw); rw [hjl] at h; exact h) (F := _) (by exact List.Perm.refl _) ?_
                rintro _ _ ⟨A91, c91, rfl, rfl⟩
                simp only [List.cons_append, List.nil_append]
                refine Seq.p rfl Ev.move ?_
                refine Seq.p rfl Ev.extract ?_
                refine Seq.p rfl Ev.extract ?_
                refine Seq.p rfl Ev.assign ?_
                refine Seq.p rfl Ev.assign ?_
                refine Seq.nil ?_
                refine JC.qs mixed (by kernel_rfl) ?_
                refine Qui.p rfl Ev.move ?_
                refine Qui.p rfl Ev.ne ?_
                refine Qui.p rfl Ev.move ?_
                refine Qui.orG (D := [96, 97, 98, 99]) (d := 96) (t := 99) (k := 3) (hn := fun h96 => ?_) (hx := ?_)
                · repeat (first | refine Qui.gn rfl rfl rfl rfl ?_ | refine Qui.gu rfl rfl rfl ?_)
                  refine Qui.p rfl Ev.pickT ?_
                  exact Qui.nil ⟨(by repeat (first | with_reducible exact Off.refl | refine Off.upd ?_ rfl | exact Off.mix | refine Off.mix2 ?_ rfl)), Look.here⟩
                apply Exists.intro
                refine ⟨fun h96 => ?_, fun u99 => ?_⟩
                · try simp only [decide_eq_true_eq, decide_eq_false_iff_not, Bool.and_eq_true, Bool.or_eq_true, Bool.not_eq_true', Bool.not_eq_false', Bool.or_eq_false_iff, Bool.and_eq_false_imp] at h96
                  refine Qui.gy rfl rfl rfl ?_
                  refine Qui.p rfl Ev.move ?_
                  refine Qui.gy rfl rfl rfl ?_
                  refine Qui.p rfl Ev.lt ?_
                  refine Qui.p rfl Ev.pickF ?_
                  exact Qui.nil ⟨(by repeat (first | with_reducible exact Off.refl | refine Off.upd ?_ rfl | exact Off.mix | refine Off.mix2 ?_ rfl)), Look.here⟩
                refine Qui.p rfl Ev.move ?_
                refine Qui.orG (D := [100, 101, 102, 103, 104, 105]) (d := 100) (t := 105) (k := 5) (hn := fun h100 => ?_) (hx := ?_)
                · repeat (first | refine Qui.gn rfl rfl rfl rfl ?_ | refine Qui.gu rfl rfl rfl ?_)
                  refine Qui.p rfl Ev.pickT ?_
                  exact Qui.nil ⟨(by repeat (first | with_reducible exact Off.refl | refine Off.upd ?_ rfl | exact Off.mix | refine Off.mix2 ?_ rfl)), Look.here⟩
                apply Exists.intro
                refine ⟨fun h100 => ?_, fun u105 => ?_⟩
                · try simp only [decide_eq_true_eq, decide_eq_false_iff_not, Bool.and_eq_true, Bool.or_eq_true, Bool.not_eq_true', Bool.not_eq_false', Bool.or_eq_false_iff, Bool.and_eq_false_imp] at h100
                  refine Qui.gy rfl rfl rfl ?_
                  refine Qui.p rfl Ev.move ?_
                  refine Qui.gy rfl rfl rfl ?_
                  refine Qui.p rfl Ev.move ?_
                  refine Qui.gy rfl rfl rfl ?_
                  refine Qui.p rfl (Ev.lenSl sl.sl_uint8 (hr := hr.r)) ?_
                  refine Qui.gy rfl rfl rfl ?_
                  refine Qui.p rfl Ev.gt ?_
                  refine Qui.p rfl Ev.pickF ?_
                  exact Qui.nil ⟨(by repeat (first | with_reducible exact Off.refl | refine Off.upd ?_ rfl | exact Off.mix | refine Off.mix2 ?_ rfl)), Look.here⟩
                refine Qui.p rfl Ev.move ?_
                refine Qui.orG (D := [106, 107, 108, 109, 110, 111, 112, 113, 114]) (d := 106) (t := 114) (k := 8) (hn := fun h106 => ?_) (hx := ?_)
                · repeat (first | refine Qui.gn rfl rfl rfl rfl ?_ | refine Qui.gu rfl rfl rfl ?_)
                  refine Qui.p rfl Ev.pickT ?_
                  exact Qui.nil ⟨(by repeat (first | with_reducible exact Off.refl | refine Off.upd ?_ rfl | exact Off.mix | refine Off.mix2 ?_ rfl)), Look.here⟩
                apply Exists.intro
                refine ⟨fun h106 => ?_, fun u114 => ?_⟩
                · try simp only [decide_eq_true_eq, decide_eq_false_iff_not, Bool.and_eq_true, Bool.or_eq_true, Bool.not_eq_true', Bool.not_eq_false', Bool.or_eq_false_iff, Bool.and_eq_false_imp] at h106
                  refine Qui.gy rfl rfl rfl ?_
                  refine Qui.p rfl Ev.move ?_
                  refine Qui.gy rfl rfl rfl ?_
                  refine Qui.p rfl (Ev.strOf (l := l.take zz) sl.sl_uint8 it.uint8 st.string (hr := RAt.own (enc := byteEnc) (xs := l.take zz) (hs := by rw [List.length_take]; omega))) ?_
                  refine Qui.gy rfl rfl rfl ?_
                  refine Qui.p rfl Ev.move ?_
                  refine Qui.gy rfl rfl rfl ?_
                  refine Qui.p rfl Ev.move ?_
                  refine Qui.gy rfl rfl rfl ?_
                  refine Qui.p rfl (Ev.cut sl.sl_uint8 (hr := hr.r) (l := 0) (h := zz) (hlo := rfl) (hhi := ⟨_, (by repeat (first | exact Look.here | apply Look.there (hne := rfl) | exact Look.const | apply Look.mix rfl | exact Look.arg0 | apply Look.args | exact Look.func))⟩)) ?_
                  refine Qui.gy rfl rfl rfl ?_
                  refine Qui.p rfl (Ev.strOf (l := l.take zz) sl.sl_uint8 it.uint8 st.string (hr := (hr.sub (lo := 0) (hi := zz) (by omega) hs2).r)) ?_
                  refine Qui.gy rfl rfl rfl ?_
                  refine Qui.p rfl Ev.neStr ?_
                  refine Qui.p rfl Ev.pickF ?_
                  exact Qui.nil ⟨(by repeat (first | with_reducible exact Off.refl | refine Off.upd ?_ rfl | exact Off.mix | refine Off.mix2 ?_ rfl)), Look.here⟩
                refine Qui.nil ?_
                first | refine JC.c (ht := fun c114 => ?_) (hf := fun c114 => ?_) | refine JC.cb (ht := fun c114 => ?_) (hf := fun c114 => ?_)
                · -- then_t114
                  exfalso
                  simp at c114
                  omega
                · -- else_t114
                  refine JC.skip ?_
                  refine JC.seq ?_
                  refine JC.rs ?_
                  refine Seq.p rfl Ev.move ?_
                  refine Seq.p rfl Ev.eq ?_
                  refine Seq.nil ?_
                  first | refine JC.c (ht := fun c116 => ?_) (hf := fun c116 => ?_) | refine JC.cb (ht := fun c116 => ?_) (hf := fun c116 => ?_)
                  · -- then_t116
                    obtain ⟨huw, hul, hm, hs1, hs2⟩ := okV c116
                    subst hm
                    refine JC.rs ?_
                    refine Seq.p rfl (Ev.ldBA (cs := u.enc) ag.api_Event) ?_
                    refine Seq.call rfl (fun w' hw => by have h := msgEventLine (w := w') huw (hL.t.upd hw); rw [hul] at h; exact h) (F := _) (by exact List.Perm.refl _) ?_
                    rintro _ _ ⟨A119, c119, rfl, rfl⟩
                    simp only [List.cons_append, List.nil_append]
                    refine Seq.p rfl Ev.move ?_
                    refine Seq.p rfl Ev.extract ?_
                    refine Seq.p rfl Ev.extract ?_
                    refine Seq.p rfl Ev.assign ?_
                    refine Seq.p rfl Ev.assign ?_
                    refine Seq.nil ?_
                    refine JC.qs mixed (by kernel_rfl) ?_
                    refine Qui.p rfl Ev.move ?_
                    refine Qui.p rfl Ev.ne ?_
                    refine Qui.p rfl Ev.move ?_
                    refine Qui.orG (D := [124, 125, 126, 127]) (d := 124) (t := 127) (k := 3) (hn := fun h124 => ?_) (hx := ?_)
                    · repeat (first | refine Qui.gn rfl rfl rfl rfl ?_ | refine Qui.gu rfl rfl rfl ?_)
                      refine Qui.p rfl Ev.pickT ?_
                      exact Qui.nil ⟨(by repeat (first | with_reducible exact Off.refl | refine Off.upd ?_ rfl | exact Off.mix | refine Off.mix2 ?_ rfl)), Look.here⟩
                    apply Exists.intro
                    refine ⟨fun h124 => ?_, fun u127 => ?_⟩
                    · try simp only [decide_eq_true_eq, decide_eq_false_iff_not, Bool.and_eq_true, Bool.or_eq_true, Bool.not_eq_true', Bool.not_eq_false', Bool.or_eq_false_iff, Bool.and_eq_false_imp] at h124
                      refine Qui.gy rfl rfl rfl ?_
                      refine Qui.p rfl Ev.move ?_
                      refine Qui.gy rfl rfl rfl ?_
                      refine Qui.p rfl Ev.lt ?_
                      refine Qui.p rfl Ev.pickF ?_
                      exact Qui.nil ⟨(by repeat (first | with_reducible exact Off.refl | refine Off.upd ?_ rfl | exact Off.mix | refine Off.mix2 ?_ rfl)), Look.here⟩
                    refine Qui.p rfl Ev.move ?_
                    refine Qui.orG (D := [128, 129, 130, 131, 132, 133]) (d := 128) (t := 133) (k := 5) (hn := fun h128 => ?_) (hx := ?_)
                    · repeat (first | refine Qui.gn rfl rfl rfl rfl ?_ | refine Qui.gu rfl rfl rfl ?_)
                      refine Qui.p rfl Ev.pickT ?_
                      exact Qui.nil ⟨(by repeat (first | with_reducible exact Off.refl | refine Off.upd ?_ rfl | exact Off.mix | refine Off.mix2 ?_ rfl)), Look.here⟩
                    apply Exists.intro
                    refine ⟨fun h128 => ?_, fun u133 => ?_⟩
                    · try simp only [decide_eq_true_eq, decide_eq_false_iff_not, Bool.and_eq_true, Bool.or_eq_true, Bool.not_eq_true', Bool.not_eq_false', Bool.or_eq_false_iff, Bool.and_eq_false_imp] at h128
                      refine Qui.gy rfl rfl rfl ?_
                      refine Qui.p rfl Ev.move ?_
                      refine Qui.gy rfl rfl rfl ?_
                      refine Qui.p rfl Ev.move ?_
                      refine Qui.gy rfl rfl rfl ?_
                      refine Qui.p rfl (Ev.lenSl sl.sl_uint8 (hr := hr.r)) ?_
                      refine Qui.gy rfl rfl rfl ?_
                      refine Qui.p rfl Ev.gt ?_
                      refine Qui.p rfl Ev.pickF ?_
                      exact Qui.nil ⟨(by repeat (first | with_reducible exact Off.refl | refine Off.upd ?_ rfl | exact Off.mix | refine Off.mix2 ?_ rfl)), Look.here⟩
                    refine Qui.p rfl Ev.move ?_
                    refine Qui.orG (D := [134, 135, 136, 137, 138, 139, 140, 141, 142]) (d := 134) (t := 142) (k := 8) (hn := fun h134 => ?_) (hx := ?_)
                    · repeat (first | refine Qui.gn rfl rfl rfl rfl ?_ | refine Qui.gu rfl rfl rfl ?_)
                      refine Qui.p rfl Ev.pickT ?_
                      exact Qui.nil ⟨(by repeat (first | with_reducible exact Off.refl | refine Off.upd ?_ rfl | exact Off.mix | refine Off.mix2 ?_ rfl)), Look.here⟩
                    apply Exists.intro
                    refine ⟨fun h134 => ?_, fun u142 => ?_⟩
                    · try simp only [decide_eq_true_eq, decide_eq_false_iff_not, Bool.and_eq_true, Bool.or_eq_true, Bool.not_eq_true', Bool.not_eq_false', Bool.or_eq_false_iff, Bool.and_eq_false_imp] at h134
                      refine Qui.gy rfl rfl rfl ?_
                      refine Qui.p rfl Ev.move ?_
                      refine Qui.gy rfl rfl rfl ?_
                      refine Qui.p rfl (Ev.strOf (l := l.take zz) sl.sl_uint8 it.uint8 st.string (hr := RAt.own (enc := byteEnc) (xs := l.take zz) (hs := by rw [List.length_take]; omega))) ?_
                      refine Qui.gy rfl rfl rfl ?_
                      refine Qui.p rfl Ev.move ?_
                      refine Qui.gy rfl rfl rfl ?_
                      refine Qui.p rfl Ev.move ?_
                      refine Qui.gy rfl rfl rfl ?_
                      refine Qui.p rfl (Ev.cut sl.sl_uint8 (hr := hr.r) (l := 0) (h := zz) (hlo := rfl) (hhi := ⟨_, (by repeat (first | exact Look.here | apply Look.there (hne := rfl) | exact Look.const | apply Look.mix rfl | exact Look.arg0 | apply Look.args | exact Look.func))⟩)) ?_
                      refine Qui.gy rfl rfl rfl ?_
                      refine Qui.p rfl (Ev.strOf (l := l.take zz) sl.sl_uint8 it.uint8 st.string (hr := (hr.sub (lo := 0) (hi := zz) (by omega) hs2).r)) ?_
                      refine Qui.gy rfl rfl rfl ?_
                      refine Qui.p rfl Ev.neStr ?_
                      refine Qui.p rfl Ev.pickF ?_
                      exact Qui.nil ⟨(by repeat (first | with_reducible exact Off.refl | refine Off.upd ?_ rfl | exact Off.mix | refine Off.mix2 ?_ rfl)), Look.here⟩
                    refine Qui.nil ?_
                    first | refine JC.c (ht := fun c142 => ?_) (hf := fun c142 => ?_) | refine JC.cb (ht := fun c142 => ?_) (hf := fun c142 => ?_)
                    · -- then_t142
                      exfalso
                      simp at c142
                      omega
                    · -- else_t142
                      refine JC.skip ?_
                      refine JC.rs ?_
                      refine Seq.p rfl Ev.assign ?_
                      refine Seq.nil ?_
                      refine JC.ret ?_
                      show retQ _ _ _ _ _ _ _ _
                      refine ret1 (hp := Part.nil _) (hpost := ?_)
                      rfl
                  · -- else_t116
                    refine JC.skip ?_
                    refine JC.rs ?_
                    refine Seq.p rfl Ev.assign ?_
                    refine Seq.nil ?_
                    refine JC.ret ?_
                    show retQ _ _ _ _ _ _ _ _
                    refine ret1 (hp := Part.nil _) (hpost := ?_)
                    rfl
              · -- else_t88
                refine JC.skip ?_
                refine JC.seq ?_
                refine JC.rs ?_
                refine Seq.p rfl Ev.move ?_
                refine Seq.p rfl Ev.eq ?_
                refine Seq.nil ?_
                first | refine JC.c (ht := fun c116 => ?_) (hf := fun c116 => ?_) | refine JC.cb (ht := fun c116 => ?_) (hf := fun c116 => ?_)
                · -- then_t116
                  obtain ⟨huw, hul, hm, hs1, hs2⟩ := okV c116
                  subst hm
                  refine JC.rs ?_
                  refine Seq.p rfl (Ev.ldBA (cs := u.enc) ag.api_Event) ?_
                  refine Seq.call rfl (fun w' hw => by have h := msgEventLine (w := w') huw (hL.t.upd hw); rw [hul] at h; exact h) (F := _) (by exact List.Perm.refl _) ?_
                  rintro _ _ ⟨A119, c119, rfl, rfl⟩
                  simp only [List.cons_append, List.nil_append]
                  refine Seq.p rfl Ev.move ?_
                  refine Seq.p rfl Ev.extract ?_
                  refine Seq.p rfl Ev.extract ?_
                  refine Seq.p rfl Ev.assign ?_
                  refine Seq.p rfl Ev.assign ?_
                  refine Seq.nil ?_
                  refine JC.qs mixed (by kernel_rfl) ?_
                  refine Qui.p rfl Ev.move ?_
                  refine Qui.p rfl Ev.ne ?_
                  refine Qui.p rfl Ev.move ?_
                  refine Qui.orG (D := [124, 125, 126, 127]) (d := 124) (t := 127) (k := 3) (hn := fun h124 => ?_) (hx := ?_)
                  · repeat (first | refine Qui.gn rfl rfl rfl rfl ?_ | refine Qui.gu rfl rfl rfl ?_)
                    refine Qui.p rfl Ev.pickT ?_
                    exact Qui.nil ⟨(by repeat (first | with_reducible exact Off.refl | refine Off.upd ?_ rfl | exact Off.mix | refine Off.mix2 ?_ rfl)), Look.here⟩
                  apply Exists.intro
                  refine ⟨fun h124 => ?_, fun u127 => ?_⟩
                  · try simp only [decide_eq_true_eq, decide_eq_false_iff_not, Bool.and_eq_true, Bool.or_eq_true, Bool.not_eq_true', Bool.not_eq_false', Bool.or_eq_false_iff, Bool.and_eq_false_imp] at h124
                    refine Qui.gy rfl rfl rfl ?_
                    refine Qui.p rfl Ev.move ?_
                    refine Qui.gy rfl rfl rfl ?_
                    refine Qui.p rfl Ev.lt ?_
                    refine Qui.p rfl Ev.pickF ?_
                    exact Qui.nil ⟨(by repeat (first | with_reducible exact Off.refl | refine Off.upd ?_ rfl | exact Off.mix | refine Off.mix2 ?_ rfl)), Look.here⟩
                  refine Qui.p rfl Ev.move ?_
                  refine Qui.orG (D := [128, 129, 130, 131, 132, 133]) (d := 128) (t := 133) (k := 5) (hn := fun h128 => ?_) (hx := ?_)
                  · repeat (first | refine Qui.gn rfl rfl rfl rfl ?_ | refine Qui.gu rfl rfl rfl ?_)
                    refine Qui.p rfl Ev.pickT ?_
                    exact Qui.nil ⟨(by repeat (first | with_reducible exact Off.refl | refine Off.upd ?_ rfl | exact Off.mix | refine Off.mix2 ?_ rfl)), Look.here⟩
                  apply Exists.intro
                  refine ⟨fun h128 => ?_, fun u133 => ?_⟩
                  · try simp only [decide_eq_true_eq, decide_eq_false_iff_not, Bool.and_eq_true, Bool.or_eq_true, Bool.not_eq_true', Bool.not_eq_false', Bool.or_eq_false_iff, Bool.and_eq_false_imp] at h128
                    refine Qui.gy rfl rfl rfl ?_
                    refine Qui.p rfl Ev.move ?_
                    refine Qui.gy rfl rfl rfl ?_
                    refine Qui.p rfl Ev.move ?_
                    refine Qui.gy rfl rfl rfl ?_
                    refine Qui.p rfl (Ev.lenSl sl.sl_uint8 (hr := hr.r)) ?_
                    refine Qui.gy rfl rfl rfl ?_
                    refine Qui.p rfl Ev.gt ?_
                    refine Qui.p rfl Ev.pickF ?_
                    exact Qui.nil ⟨(by repeat (first | with_reducible exact Off.refl | refine Off.upd ?_ rfl | exact Off.mix | refine Off.mix2 ?_ rfl)), Look.here⟩
                  refine Qui.p rfl Ev.move ?_
                  refine Qui.orG (D := [134, 135, 136, 137, 138, 139, 140, 141, 142]) (d := 134) (t := 142) (k := 8) (hn := fun h134 => ?_) (hx := ?_)
                  · repeat (first | refine Qui.gn rfl rfl rfl rfl ?_ | refine Qui.gu rfl rfl rfl ?_)
                    refine Qui.p rfl Ev.pickT ?_
                    exact Qui.nil ⟨(by repeat (first | with_reducible exact Off.refl | refine Off.upd ?_ rfl | exact Off.mix | refine Off.mix2 ?_ rfl)), Look.here⟩
                  apply Exists.intro
                  refine ⟨fun h134 => ?_, fun u142 => ?_⟩
                  · try simp only [decide_eq_true_eq, decide_eq_false_iff_not, Bool.and_eq_true, Bool.or_eq_true, Bool.not_eq_true', Bool.not_eq_false', Bool.or_eq_false_iff, Bool.and_eq_false_imp] at h134
                    refine Qui.gy rfl rfl rfl ?_
                    refine Qui.p rfl Ev.move ?_
                    refine Qui.gy rfl rfl rfl ?_
                    refine Qui.p rfl (Ev.strOf (l := l.take zz) sl.sl_uint8 it.uint8 st.string (hr := RAt.own (enc := byteEnc) (xs := l.take zz) (hs := by rw [List.length_take]; omega))) ?_
                    refine Qui.gy rfl rfl rfl ?_
                    refine Qui.p rfl Ev.move ?_
                    refine Qui.gy rfl rfl rfl ?_
                    refine Qui.p rfl Ev.move ?_
                    refine Qui.gy rfl rfl rfl ?_
                    refine Qui.p rfl (Ev.cut sl.sl_uint8 (hr := hr.r) (l := 0) (h := zz) (hlo := rfl) (hhi := ⟨_, (by repeat (first | exact Look.here | apply Look.there (hne := rfl) | exact Look.const | apply Look.mix rfl | exact Look.arg0 | apply Look.args | exact Look.func))⟩)) ?_
                    refine Qui.gy rfl rfl rfl ?_
                    refine Qui.p rfl (Ev.strOf (l := l.take zz) sl.sl_uint8 it.uint8 st.string (hr := (hr.sub (lo := 0) (hi := zz) (by omega) hs2).r)) ?_
                    refine Qui.gy rfl rfl rfl ?_
                    refine Qui.p rfl Ev.neStr ?_
                    refine Qui.p rfl Ev.pickF ?_
                    exact Qui.nil ⟨(by repeat (first | with_reducible exact Off.refl | refine Off.upd ?_ rfl | exact Off.mix | refine Off.mix2 ?_ rfl)), Look.here⟩
                  refine Qui.nil ?_
                  first | refine JC.c (ht := fun c142 => ?_) (hf := fun c142 => ?_) | refine JC.cb (ht := fun c142 => ?_) (hf := fun c142 => ?_)
                  · -- then_t142
                    exfalso
                    simp at c142
                    omega
                  · -- else_t142
                    refine JC.skip ?_
                    refine JC.rs ?_
                    refine Seq.p rfl Ev.assign ?_
                    refine Seq.nil ?_
                    refine JC.ret ?_
                    show retQ _ _ _ _ _ _ _ _
                    refine ret1 (hp := Part.nil _) (hpost := ?_)
                    rfl
                · -- else_t116
                  refine JC.skip ?_
                  refine JC.rs ?_
                  refine Seq.p rfl Ev.assign ?_
                  refine Seq.nil ?_
                  refine JC.ret ?_
                  show retQ _ _ _ _ _ _ _ _
                  refine ret1 (hp := Part.nil _) (hpost := ?_)
                  rfl
      · -- else_t42
        refine JC.skip ?_
        refine JC.seq ?_
        refine JC.rs ?_
        refine Seq.p rfl Ev.move ?_
        refine Seq.p rfl Ev.eq ?_
        refine Seq.nil ?_
        first | refine JC.c (ht := fun c56 => ?_) (hf := fun c56 => ?_) | refine JC.cb (ht := fun c56 => ?_) (hf := fun c56 => ?_)
        · -- then_t56
          refine JC.rs ?_
          refine Seq.p rfl (Ev.ldBA (cs := ev.enc) ag.api_Event) ?_
          refine Seq.callP rfl (fun w' hw => sQ c56 w') ?_
          refine Seq.p rfl Ev.move ?_
          refine Seq.p rfl Ev.extract ?_
          refine Seq.p rfl Ev.extract ?_
          refine Seq.alloc (cs := [_, _, _, _, _, _, _, _]) (hz := z.api_Frame) (k := ?_); intro b11
          refine Seq.storeTo (cs' := frV k g0 g1 g2 g3 g4 g5 g6) sz.api_Frame (hH := At.z) (hfit := Nat.le_of_ble_eq_true rfl) (hcs := rfl) (k := ?_)
          refine Seq.p rfl Ev.assign ?_
          refine Seq.nil ?_
          refine JC.rs ?_
          refine Seq.p rfl Ev.move ?_
          refine Seq.p rfl Ev.ne ?_
          refine Seq.p rfl Ev.move ?_
          refine Seq.orG (D := [64, 65, 66, 67, 68]) (d := 64) (t := 68) (k := 4) (hn := fun h64 => ?_) (hx := ?_)
          · repeat (first | refine Seq.gn rfl rfl rfl rfl ?_ | refine Seq.gu rfl rfl rfl ?_)
            refine Seq.p rfl Ev.pickT ?_
            exact Seq.nil ⟨rfl, (by repeat (first | with_reducible exact Off.refl | refine Off.upd ?_ rfl | exact Off.mix | refine Off.mix2 ?_ rfl)), Look.here⟩
          apply Exists.intro
          refine ⟨fun h64 => ?_, fun u68 => ?_⟩
          · try simp only [decide_eq_true_eq, decide_eq_false_iff_not, Bool.and_eq_true, Bool.or_eq_true, Bool.not_eq_true', Bool.not_eq_false', Bool.or_eq_false_iff, Bool.and_eq_false_imp] at h64
            refine Seq.gy rfl rfl rfl ?_
            refine Seq.p rfl (Ev.ldBA (cs := frV k g0 g1 g2 g3 g4 g5 g6) ag.api_Frame) ?_
            refine Seq.gy rfl rfl rfl ?_
            refine Seq.p rfl (Ev.ldBA (cs := frV k g0 g1 g2 g3 g4 g5 g6) ag.api_Frame) ?_
            refine Seq.gy rfl rfl rfl ?_
            refine Seq.p rfl (Ev.neAg so.api_Frame ag.api_Frame gd.api_Frame) ?_
            refine Seq.p rfl Ev.pickF ?_
            exact Seq.nil ⟨rfl, (by repeat (first | with_reducible exact Off.refl | refine Off.upd ?_ rfl | exact Off.mix | refine Off.mix2 ?_ rfl)), Look.here⟩
          refine Seq.nil ?_
          first | refine JC.c (ht := fun c68 => ?_) (hf := fun c68 => ?_) | refine JC.cb (ht := fun c68 => ?_) (hf := fun c68 => ?_)
          · -- then_t68
            exfalso
            simp [frV, eqL, eqV] at c68
          · -- else_t68
            refine JC.skip ?_
            refine JC.rs ?_
            refine Seq.p rfl Ev.move ?_
            refine Seq.callP rfl (v := .tuple #[.agg j.enc.toArray, .int .i64 n, .int .i64 d]) (fun w' hw => by have h := msgReadLine (hr.up hw) hB (by omega) (hL.upd hw); rw [hp] at h; exact h) ?_
            refine Seq.p rfl Ev.move ?_
            refine Seq.p rfl Ev.extract ?_
            refine Seq.p rfl Ev.extract ?_
            refine Seq.p rfl Ev.extract ?_
            refine Seq.alloc (cs := [_, _, _, _, _, _, _, _, _, _, _]) (hz := z.api_Input) (k := ?_); intro b13
            refine Seq.storeTo (cs' := j.enc) sz.api_Input (hH := At.z) (hfit := Nat.le_of_ble_eq_true rfl) (hcs := rfl) (k := ?_)
            refine Seq.p rfl Ev.assign ?_
            refine Seq.p rfl Ev.assign ?_
            refine Seq.nil ?_
            refine JC.rs ?_
            refine Seq.p rfl Ev.move ?_
            refine Seq.callP rfl (v := .tuple #[.agg u.enc.toArray, .int .i64 m, .int .i64 hh]) (fun w' hw => by have h := msgReadEvent (hr.up hw) hB (by omega) (hL.upd hw); rw [hq] at h; exact h) ?_
            refine Seq.p rfl Ev.move ?_
            refine Seq.p rfl Ev.extract ?_
            refine Seq.p rfl Ev.extract ?_
            refine Seq.p rfl Ev.extract ?_
            refine Seq.alloc (cs := [_, _, _, _, _, _, _, _, _, _, _, _, _]) (hz := z.api_Event) (k := ?_); intro b16
            refine Seq.storeTo (cs' := u.enc) sz.api_Event (hH := At.z) (hfit := Nat.le_of_ble_eq_true rfl) (hcs := rfl) (k := ?_)
            refine Seq.p rfl Ev.assign ?_
            refine Seq.p rfl Ev.assign ?_
            refine Seq.nil ?_
            refine JC.seq ?_
            refine JC.rs ?_
            refine Seq.p rfl Ev.move ?_
            refine Seq.p rfl Ev.eq ?_
            refine Seq.p rfl Ev.move ?_
            refine Seq.andG (D := [83, 84, 85, 86]) (d := 83) (t := 86) (k := 3) (hn := fun h83 => ?_) (hx := ?_)
            · repeat (first | refine Seq.gn rfl rfl rfl rfl ?_ | refine Seq.gu rfl rfl rfl ?_)
              refine Seq.p rfl Ev.pickF ?_
              exact Seq.nil ⟨rfl, (by repeat (first | with_reducible exact Off.refl | refine Off.upd ?_ rfl | exact Off.mix | refine Off.mix2 ?_ rfl)), Look.here⟩
            apply Exists.intro
            refine ⟨fun h83 => ?_, fun u86 => ?_⟩
            · try simp only [decide_eq_true_eq, decide_eq_false_iff_not, Bool.and_eq_true, Bool.or_eq_true, Bool.not_eq_true', Bool.not_eq_false', Bool.or_eq_false_iff, Bool.and_eq_false_imp] at h83
              refine Seq.gy rfl rfl rfl ?_
              refine Seq.p rfl Ev.move ?_
              refine Seq.gy rfl rfl rfl ?_
              refine Seq.p rfl Ev.eq ?_
              refine Seq.p rfl Ev.pickT ?_
              exact Seq.nil ⟨rfl, (by repeat (first | with_reducible exact Off.refl | refine Off.upd ?_ rfl | exact Off.mix | refine Off.mix2 ?_ rfl)), Look.here⟩
            refine Seq.nil ?_
            first | refine JC.c (ht := fun c86 => ?_) (hf := fun c86 => ?_) | refine JC.cb (ht := fun c86 => ?_) (hf := fun c86 => ?_)
            · -- then_t86
              simp only [Bool.and_eq_true, decide_eq_true_eq] at c86
              exact absurd c86 hno2
            · -- else_t86
              refine JC.skip ?_
              refine JC.seq ?_
              refine JC.rs ?_
              refine Seq.p rfl Ev.move ?_
              refine Seq.p rfl Ev.eq ?_
              refine Seq.nil ?_
              first | refine JC.c (ht := fun c88 => ?_) (hf := fun c88 => ?_) | refine JC.cb (ht := fun c88 => ?_) (hf := fun c88 => ?_)
              · -- then_t88
                obtain ⟨hjw, hjl, hn, hs1, hs2⟩ := okL c88
                subst hn
                refine JC.rs ?_
                refine Seq.p rfl (Ev.ldBA (cs := j.enc) ag.api_Input) ?_
                refine Seq.call rfl (fun w' hw => by have h := msgLine (w := w') hjw (hL.t.upd hw); rw [hjl] at h; exact h) (F := _) (by exact List.Perm.refl _) ?_
                rintro _ _ ⟨A91, c91, rfl, rfl⟩
                simp only [List.cons_append, List.nil_append]
                refine Seq.p rfl Ev.move ?_
                refine Seq.p rfl Ev.extract ?_
                refine Seq.p rfl Ev.extract ?_
                refine Seq.p rfl Ev.assign ?_
                refine Seq.p rfl Ev.assign ?_
                refine Seq.nil ?_
                refine JC.qs mixed (by kernel_rfl) ?_
                refine Qui.p rfl Ev.move ?_
                refine Qui.p rfl Ev.ne ?_
                refine Qui.p rfl Ev.move ?_
                refine Qui.orG (D := [96, 97, 98, 99]) (d := 96) (t := 99) (k := 3) (hn := fun h96 => ?_) (hx := ?_)
                · repeat (first | refine Qui.gn rfl rfl rfl rfl ?_ | refine Qui.gu rfl rfl rfl ?_)
                  refine Qui.p rfl Ev.pickT ?_
                  exact Qui.nil ⟨(by repeat (first | with_reducible exact Off.refl | refine Off.upd ?_ rfl | exact Off.mix | refine Off.mix2 ?_ rfl)), Look.here⟩
                apply Exists.intro
                refine ⟨fun h96 => ?_, fun u99 => ?_⟩
                · try simp only [decide_eq_true_eq, decide_eq_false_iff_not, Bool.and_eq_true, Bool.or_eq_true, Bool.not_eq_true', Bool.not_eq_false', Bool.or_eq_false_iff, Bool.and_eq_false_imp] at h96
                  refine Qui.gy rfl rfl rfl ?_
                  refine Qui.p rfl Ev.move ?_
                  refine Qui.gy rfl rfl rfl ?_
                  refine Qui.p rfl Ev.lt ?_
                  refine Qui.p rfl Ev.pickF ?_
                  exact Qui.nil ⟨(by repeat (first | with_reducible exact Off.refl | refine Off.upd ?_ rfl | exact Off.mix | refine Off.mix2 ?_ rfl)), Look.here⟩
                refine Qui.p rfl Ev.move ?_
                refine Qui.orG (D := [100, 101, 102, 103, 104, 105]) (d := 100) (t := 105) (k := 5) (hn := fun h100 => ?_) (hx := ?_)
                · repeat (first | refine Qui.gn rfl rfl rfl rfl ?_ | refine Qui.gu rfl rfl rfl ?_)
                  refine Qui.p rfl Ev.pickT ?_
                  exact Qui.nil ⟨(by repeat (first | with_reducible exact Off.refl | refine Off.upd ?_ rfl | exact Off.mix | refine Off.mix2 ?_ rfl)), Look.here⟩
                apply Exists.intro
                refine ⟨fun h100 => ?_, fun u105 => ?_⟩
                · try simp only [decide_eq_true_eq, decide_eq_false_iff_not, Bool.and_eq_true, Bool.or_eq_true, Bool.not_eq_true', Bool.not_eq_false', Bool.or_eq_false_iff, Bool.and_eq_false_imp] at h100
                  refine Qui.gy rfl rfl rfl ?_
                  refine Qui.p rfl Ev.move ?_
                  refine Qui.gy rfl rfl rfl ?_
                  refine Qui.p rfl Ev.move ?_
                  refine Qui.gy rfl rfl rfl ?_
                  refine Qui.p rfl (Ev.lenSl sl.sl_uint8 (hr := hr.r)) ?_
                  refine Qui.gy rfl rfl rfl ?_
                  refine Qui.p rfl Ev.gt ?_
                  refine Qui.p rfl Ev.pickF ?_
                  exact Qui.nil ⟨(by repeat (first | with_reducible exact Off.refl | refine Off.upd ?_ rfl | exact Off.mix | refine Off.mix2 ?_ rfl)), Look.here⟩
                refine Qui.p rfl Ev.move ?_
                refine Qui.orG (D := [106, 107, 108, 109, 110, 111, 112, 113, 114]) (d := 106) (t := 114) (k := 8) (hn := fun h106 => ?_) (hx := ?_)
                · repeat (first | refine Qui.gn rfl rfl rfl rfl ?_ | refine Qui.gu rfl rfl rfl ?_)
                  refine Qui.p rfl Ev.pickT ?_
                  exact Qui.nil ⟨(by repeat (first | with_reducible exact Off.refl | refine Off.upd ?_ rfl | exact Off.mix | refine Off.mix2 ?_ rfl)), Look.here⟩
                apply Exists.intro
                refine ⟨fun h106 => ?_, fun u114 => ?_⟩
                · try simp only [decide_eq_true_eq, decide_eq_false_iff_not, Bool.and_eq_true, Bool.or_eq_true, Bool.not_eq_true', Bool.not_eq_false', Bool.or_eq_false_iff, Bool.and_eq_false_imp] at h106
                  refine Qui.gy rfl rfl rfl ?_
                  refine Qui.p rfl Ev.move ?_
                  refine Qui.gy rfl rfl rfl ?_
                  refine Qui.p rfl (Ev.strOf (l := l.take zz) sl.sl_uint8 it.uint8 st.string (hr := RAt.own (enc := byteEnc) (xs := l.take zz) (hs := by rw [List.length_take]; omega))) ?_
                  refine Qui.gy rfl rfl rfl ?_
                  refine Qui.p rfl Ev.move ?_
                  refine Qui.gy rfl rfl rfl ?_
                  refine Qui.p rfl Ev.move ?_
                  refine Qui.gy rfl rfl rfl ?_
                  refine Qui.p rfl (Ev.cut sl.sl_uint8 (hr := hr.r) (l := 0) (h := zz) (hlo := rfl) (hhi := ⟨_, (by repeat (first | exact Look.here | apply Look.there (hne := rfl) | exact Look.const | apply Look.mix rfl | exact Look.arg0 | apply Look.args | exact Look.func))⟩)) ?_
                  refine Qui.gy rfl rfl rfl ?_
                  refine Qui.p rfl (Ev.strOf (l := l.take zz) sl.sl_uint8 it.uint8 st.string (hr := (hr.sub (lo := 0) (hi := zz) (by omega) hs2).r)) ?_
                  refine Qui.gy rfl rfl rfl ?_
                  refine Qui.p rfl Ev.neStr ?_
                  refine Qui.p rfl Ev.pickF ?_
                  exact Qui.nil ⟨(by repeat (first | with_reducible exact Off.refl | refine Off.upd ?_ rfl | exact Off.mix | refine Off.mix2 ?_ rfl)), Look.here⟩
                refine Qui.nil ?_
                first | refine JC.c (ht := fun c114 => ?_) (hf := fun c114 => ?_) | refine JC.cb (ht := fun c114 => ?_) (hf := fun c114 => ?_)
                · -- then_t114
                  exfalso
                  simp at c114
                  omega
                · -- else_t114
                  refine JC.skip ?_
                  refine JC.seq ?_
                  refine JC.rs ?_
                  refine Seq.p rfl Ev.move ?_
                  refine Seq.p rfl Ev.eq ?_
                  refine Seq.nil ?_
                  first | refine JC.c (ht := fun c116 => ?_) (hf := fun c116 => ?_) | refine JC.cb (ht := fun c116 => ?_) (hf := fun c116 => ?_)
                  · -- then_t116
                    obtain ⟨huw, hul, hm, hs1, hs2⟩ := okV c116
                    subst hm
                    refine JC.rs ?_
                    refine Seq.p rfl (Ev.ldBA (cs := u.enc) ag.api_Event) ?_
                    refine Seq.call rfl (fun w' hw => by have h := msgEventLine (w := w') huw (hL.t.upd hw); rw [hul] at h; exact h) (F := _) (by exact List.Perm.refl _) ?_
                    rintro _ _ ⟨A119, c119, rfl, rfl⟩
                    simp only [List.cons_append, List.nil_append]
                    refine Seq.p rfl Ev.move ?_
                    refine Seq.p rfl Ev.extract ?_
                    refine Seq.p rfl Ev.extract ?_
                    refine Seq.p rfl Ev.assign ?_
                    refine Seq.p rfl Ev.assign ?_
                    refine Seq.nil ?_
                    refine JC.qs mixed (by kernel_rfl) ?_
                    refine Qui.p rfl Ev.move ?_
                    refine Qui.p rfl Ev.ne ?_
                    refine Qui.p rfl Ev.move ?_
                    refine Qui.orG (D := [124, 125, 126, 127]) (d := 124) (t := 127) (k := 3) (hn := fun h124 => ?_) (hx := ?_)
                    · repeat (first | refine Qui.gn rfl rfl rfl rfl ?_ | refine Qui.gu rfl rfl rfl ?_)
                      refine Qui.p rfl Ev.pickT ?_
                      exact Qui.nil ⟨(by repeat (first | with_reducible exact Off.refl | refine Off.upd ?_ rfl | exact Off.mix | refine Off.mix2 ?_ rfl)), Look.here⟩
                    apply Exists.intro
                    refine ⟨fun h124 => ?_, fun u127 => ?_⟩
                    · try simp only [decide_eq_true_eq, decide_eq_false_iff_not, Bool.and_eq_true, Bool.or_eq_true, Bool.not_eq_true', Bool.not_eq_false', Bool.or_eq_false_iff, Bool.and_eq_false_imp] at h124
                      refine Qui.gy rfl rfl rfl ?_
                      refine Qui.p rfl Ev.move ?_
                      refine Qui.gy rfl rfl rfl ?_
                      refine Qui.p rfl Ev.lt ?_
                      refine Qui.p rfl Ev.pickF ?_
                      exact Qui.nil ⟨(by repeat (first | with_reducible exact Off.refl | refine Off.upd ?_ rfl | exact Off.mix | refine Off.mix2 ?_ rfl)), Look.here⟩
                    refine Qui.p rfl Ev.move ?_
                    refine Qui.orG (D := [128, 129, 130, 131, 132, 133]) (d := 128) (t := 133) (k := 5) (hn := fun h128 => ?_) (hx := ?_)
                    · repeat (first | refine Qui.gn rfl rfl rfl rfl ?_ | refine Qui.gu rfl rfl rfl ?_)
                      refine Qui.p rfl Ev.pickT ?_
                      exact Qui.nil ⟨(by repeat (first | with_reducible exact Off.refl | refine Off.upd ?_ rfl | exact Off.mix | refine Off.mix2 ?_ rfl)), Look.here⟩
                    apply Exists.intro
                    refine ⟨fun h128 => ?_, fun u133 => ?_⟩
                    · try simp only [decide_eq_true_eq, decide_eq_false_iff_not, Bool.and_eq_true, Bool.or_eq_true, Bool.not_eq_true', Bool.not_eq_false', Bool.or_eq_false_iff, Bool.and_eq_false_imp] at h128
                      refine Qui.gy rfl rfl rfl ?_
                      refine Qui.p rfl Ev.move ?_
                      refine Qui.gy rfl rfl rfl ?_
                      refine Qui.p rfl Ev.move ?_
                      refine Qui.gy rfl rfl rfl ?_
                      refine Qui.p rfl (Ev.lenSl sl.sl_uint8 (hr := hr.r)) ?_
                      refine Qui.gy rfl rfl rfl ?_
                      refine Qui.p rfl Ev.gt ?_
                      refine Qui.p rfl Ev.pickF ?_
                      exact Qui.nil ⟨(by repeat (first | with_reducible exact Off.refl | refine Off.upd ?_ rfl | exact Off.mix | refine Off.mix2 ?_ rfl)), Look.here⟩
                    refine Qui.p rfl Ev.move ?_
                    refine Qui.orG (D := [134, 135, 136, 137, 138, 139, 140, 141, 142]) (d := 134) (t := 142) (k := 8) (hn := fun h134 => ?_) (hx := ?_)
                    · repeat (first | refine Qui.gn rfl rfl rfl rfl ?_ | refine Qui.gu rfl rfl rfl ?_)
                      refine Qui.p rfl Ev.pickT ?_
                      exact Qui.nil ⟨(by repeat (first | with_reducible exact Off.refl | refine Off.upd ?_ rfl | exact Off.mix | refine Off.mix2 ?_ rfl)), Look.here⟩
                    apply Exists.intro
                    refine ⟨fun h134 => ?_, fun u142 => ?_⟩
                    · try simp only [decide_eq_true_eq, decide_eq_false_iff_not, Bool.and_eq_true, Bool.or_eq_true, Bool.not_eq_true', Bool.not_eq_false', Bool.or_eq_false_iff, Bool.and_eq_false_imp] at h134
                      refine Qui.gy rfl rfl rfl ?_
                      refine Qui.p rfl Ev.move ?_
                      refine Qui.gy rfl rfl rfl ?_
                      refine Qui.p rfl (Ev.strOf (l := l.take zz) sl.sl_uint8 it.uint8 st.string (hr := RAt.own (enc := byteEnc) (xs := l.take zz) (hs := by rw [List.length_take]; omega))) ?_
                      refine Qui.gy rfl rfl rfl ?_
                      refine Qui.p rfl Ev.move ?_
                      refine Qui.gy rfl rfl rfl ?_
                      refine Qui.p rfl Ev.move ?_
                      refine Qui.gy rfl rfl rfl ?_
                      refine Qui.p rfl (Ev.cut sl.sl_uint8 (hr := hr.r) (l := 0) (h := zz) (hlo := rfl) (hhi := ⟨_, (by repeat (first | exact Look.here | apply Look.there (hne := rfl) | exact Look.const | apply Look.mix rfl | exact Look.arg0 | apply Look.args | exact Look.func))⟩)) ?_
                      refine Qui.gy rfl rfl rfl ?_
                      refine Qui.p rfl (Ev.strOf (l := l.take zz) sl.sl_uint8 it.uint8 st.string (hr := (hr.sub (lo := 0) (hi := zz) (by omega) hs2).r)) ?_
                      refine Qui.gy rfl rfl rfl ?_
                      refine Qui.p rfl Ev.neStr ?_
                      refine Qui.p rfl Ev.pickF ?_
                      exact Qui.nil ⟨(by repeat (first | with_reducible exact Off.refl | refine Off.upd ?_ rfl | exact Off.mix | refine Off.mix2 ?_ rfl)), Look.here⟩
                    refine Qui.nil ?_
                    first | refine JC.c (ht := fun c142 => ?_) (hf := fun c142 => ?_) | refine JC.cb (ht := fun c142 => ?_) (hf := fun c142 => ?_)
                    · -- then_t142
                      exfalso
                      simp at c142
                      omega
                    · -- else_t142
                      refine JC.skip ?_
                      refine JC.rs ?_
                      refine Seq.p rfl Ev.assign ?_
                      refine Seq.nil ?_
                      refine JC.ret ?_
                      show retQ _ _ _ _ _ _ _ _
                      refine ret1 (hp := Part.nil _) (hpost := ?_)
                      rfl
                  · -- else_t116
                    refine JC.skip ?_
                    refine JC.rs ?_
                    refine Seq.p rfl Ev.assign ?_
                    refine Seq.nil ?_
                    refine JC.ret ?_
                    show retQ _ _ _ _ _ _ _ _
                    refine ret1 (hp := Part.nil _) (hpost := ?_)
                    rfl
              · -- else_t88
                refine JC.skip ?_
                refine JC.seq ?_
                refine JC.rs ?_
                refine Seq.p rfl Ev.move ?_
                refine Seq.p rfl Ev.eq ?_
                refine Seq.nil ?_
                first | refine JC.c (ht := fun c116 => ?_) (hf := fun c116 => ?_) | refine JC.cb (ht := fun c116 => ?_) (hf := fun c116 => ?_)
                · -- then_t116
                  obtain ⟨huw, hul, hm, hs1, hs2⟩ := okV c116
                  subst hm
                  refine JC.rs ?_
                  refine Seq.p rfl (Ev.ldBA (cs := u.enc) ag.api_Event) ?_
                  refine Seq.call rfl (fun w' hw => by have h := msgEventLine (w := w') huw (hL.t.upd hw); rw [hul] at h; exact h) (F := _) (by exact List.Perm.refl _) ?_
                  rintro _ _ ⟨A119, c119, rfl, rfl⟩
                  simp only [List.cons_append, List.nil_append]
                  refine Seq.p rfl Ev.move ?_
                  refine Seq.p rfl Ev.extract ?_
                  refine Seq.p rfl Ev.extract ?_
                  refine Seq.p rfl Ev.assign ?_
                  refine Seq.p rfl Ev.assign ?_
                  refine Seq.nil ?_
                  refine JC.qs mixed (by kernel_rfl) ?_
                  refine Qui.p rfl Ev.move ?_
                  refine Qui.p rfl Ev.ne ?_
                  refine Qui.p rfl Ev.move ?_
                  refine Qui.orG (D := [124, 125, 126, 127]) (d := 124) (t := 127) (k := 3) (hn := fun h124 => ?_) (hx := ?_)
                  · repeat (first | refine Qui.gn rfl rfl rfl rfl ?_ | refine Qui.gu rfl rfl rfl ?_)
                    refine Qui.p rfl Ev.pickT ?_
                    exact Qui.nil ⟨(by repeat (first | with_reducible exact Off.refl | refine Off.upd ?_ rfl | exact Off.mix | refine Off.mix2 ?_ rfl)), Look.here⟩
                  apply Exists.intro
                  refine ⟨fun h124 => ?_, fun u127 => ?_⟩
                  · try simp only [decide_eq_true_eq, decide_eq_false_iff_not, Bool.and_eq_true, Bool.or_eq_true, Bool.not_eq_true', Bool.not_eq_false', Bool.or_eq_false_iff, Bool.and_eq_false_imp] at h124
                    refine Qui.gy rfl rfl rfl ?_
                    refine Qui.p rfl Ev.move ?_
                    refine Qui.gy rfl rfl rfl ?_
                    refine Qui.p rfl Ev.lt ?_
                    refine Qui.p rfl Ev.pickF ?_
                    exact Qui.nil ⟨(by repeat (first | with_reducible exact Off.refl | refine Off.upd ?_ rfl | exact Off.mix | refine Off.mix2 ?_ rfl)), Look.here⟩
                  refine Qui.p rfl Ev.move ?_
                  refine Qui.orG (D := [128, 129, 130, 131, 132, 133]) (d := 128) (t := 133) (k := 5) (hn := fun h128 => ?_) (hx := ?_)
                  · repeat (first | refine Qui.gn rfl rfl rfl rfl ?_ | refine Qui.gu rfl rfl rfl ?_)
                    refine Qui.p rfl Ev.pickT ?_
                    exact Qui.nil ⟨(by repeat (first | with_reducible exact Off.refl | refine Off.upd ?_ rfl | exact Off.mix | refine Off.mix2 ?_ rfl)), Look.here⟩
                  apply Exists.intro
                  refine ⟨fun h128 => ?_, fun u133 => ?_⟩
                  · try simp only [decide_eq_true_eq, decide_eq_false_iff_not, Bool.and_eq_true, Bool.or_eq_true, Bool.not_eq_true', Bool.not_eq_false', Bool.or_eq_false_iff, Bool.and_eq_false_imp] at h128
                    refine Qui.gy rfl rfl rfl ?_
                    refine Qui.p rfl Ev.move ?_
                    refine Qui.gy rfl rfl rfl ?_
                    refine Qui.p rfl Ev.move ?_
                    refine Qui.gy rfl rfl rfl ?_
                    refine Qui.p rfl (Ev.lenSl sl.sl_uint8 (hr := hr.r)) ?_
                    refine Qui.gy rfl rfl rfl ?_
                    refine Qui.p rfl Ev.gt ?_
                    refine Qui.p rfl Ev.pickF ?_
                    exact Qui.nil ⟨(by repeat (first | with_reducible exact Off.refl | refine Off.upd ?_ rfl | exact Off.mix | refine Off.mix2 ?_ rfl)), Look.here⟩
                  refine Qui.p rfl Ev.move ?_
                  refine Qui.orG (D := [134, 135, 136, 137, 138, 139, 140, 141, 142]) (d := 134) (t := 142) (k := 8) (hn := fun h134 => ?_) (hx := ?_)
                  · repeat (first | refine Qui.gn rfl rfl rfl rfl ?_ | refine Qui.gu rfl rfl rfl ?_)
                    refine Qui.p rfl Ev.pickT ?_
                    exact Qui.nil ⟨(by repeat (first | with_reducible exact Off.refl | refine Off.upd ?_ rfl | exact Off.mix | refine Off.mix2 ?_ rfl)), Look.here⟩
                  apply Exists.intro
                  refine ⟨fun h134 => ?_, fun u142 => ?_⟩
                  · try simp only [decide_eq_true_eq, decide_eq_false_iff_not, Bool.and_eq_true, Bool.or_eq_true, Bool.not_eq_true', Bool.not_eq_false', Bool.or_eq_false_iff, Bool.and_eq_false_imp] at h134
                    refine Qui.gy rfl rfl rfl ?_
                    refine Qui.p rfl Ev.move ?_
                    refine Qui.gy rfl rfl rfl ?_
                    refine Qui.p rfl (Ev.strOf (l := l.take zz) sl.sl_uint8 it.uint8 st.string (hr := RAt.own (enc := byteEnc) (xs := l.take zz) (hs := by rw [List.length_take]; omega))) ?_
                    refine Qui.gy rfl rfl rfl ?_
                    refine Qui.p rfl Ev.move ?_
                    refine Qui.gy rfl rfl rfl ?_
                    refine Qui.p rfl Ev.move ?_
                    refine Qui.gy rfl rfl rfl ?_
                    refine Qui.p rfl (Ev.cut sl.sl_uint8 (hr := hr.r) (l := 0) (h := zz) (hlo := rfl) (hhi := ⟨_, (by repeat (first | exact Look.here | apply Look.there (hne := rfl) | exact Look.const | apply Look.mix rfl | exact Look.arg0 | apply Look.args | exact Look.func))⟩)) ?_
                    refine Qui.gy rfl rfl rfl ?_
                    refine Qui.p rfl (Ev.strOf (l := l.take zz) sl.sl_uint8 it.uint8 st.string (hr := (hr.sub (lo := 0) (hi := zz) (by omega) hs2).r)) ?_
                    refine Qui.gy rfl rfl rfl ?_
                    refine Qui.p rfl Ev.neStr ?_
                    refine Qui.p rfl Ev.pickF ?_
                    exact Qui.nil ⟨(by repeat (first | with_reducible exact Off.refl | refine Off.upd ?_ rfl | exact Off.mix | refine Off.mix2 ?_ rfl)), Look.here⟩
                  refine Qui.nil ?_
                  first | refine JC.c (ht := fun c142 => ?_) (hf := fun c142 => ?_) | refine JC.cb (ht := fun c142 => ?_) (hf := fun c142 => ?_)
                  · -- then_t142
                    exfalso
                    simp at c142
                    omega
                  · -- else_t142
                    refine JC.skip ?_
                    refine JC.rs ?_
                    refine Seq.p rfl Ev.assign ?_
                    refine Seq.nil ?_
                    refine JC.ret ?_
                    show retQ _ _ _ _ _ _ _ _
                    refine ret1 (hp := Part.nil _) (hpost := ?_)
                    rfl
                · -- else_t116
                  refine JC.skip ?_
                  refine JC.rs ?_
                  refine Seq.p rfl Ev.assign ?_
                  refine Seq.nil ?_
                  refine JC.ret ?_
                  show retQ _ _ _ _ _ _ _ _
                  refine ret1 (hp := Part.nil _) (hpost := ?_)
                  rfl
        · -- else_t56
          refine JC.skip ?_
          refine JC.rs ?_
          refine Seq.p rfl Ev.move ?_
          refine Seq.callP rfl (v := .tuple #[.agg j.enc.toArray, .int .i64 n, .int .i64 d]) (fun w' hw => by have h := msgReadLine (hr.up hw) hB (by omega) (hL.upd hw); rw [hp] at h; exact h) ?_
          refine Seq.p rfl Ev.move ?_
          refine Seq.p rfl Ev.extract ?_
          refine Seq.p rfl Ev.extract ?_
          refine Seq.p rfl Ev.extract ?_
          refine Seq.alloc (cs := [_, _, _, _, _, _, _, _, _, _, _]) (hz := z.api_Input) (k := ?_); intro b13
          refine Seq.storeTo (cs' := j.enc) sz.api_Input (hH := At.z) (hfit := Nat.le_of_ble_eq_true rfl) (hcs := rfl) (k := ?_)
          refine Seq.p rfl Ev.assign ?_
          refine Seq.p rfl Ev.assign ?_
          refine Seq.nil ?_
          refine JC.rs ?_
          refine Seq.p rfl Ev.move ?_
          refine Seq.callP rfl (v := .tuple #[.agg u.enc.toArray, .int .i64 m, .int .i64 hh]) (fun w' hw => by have h := msgReadEvent (hr.up hw) hB (by omega) (hL.upd hw); rw [hq] at h; exact h) ?_
          refine Seq.p rfl Ev.move ?_
          refine Seq.p rfl Ev.extract ?_
          refine Seq.p rfl Ev.extract ?_
          refine Seq.p rfl Ev.extract ?_
          refine Seq.alloc (cs := [_, _, _, _, _, _, _, _, _, _, _, _, _]) (hz := z.api_Event) (k := ?_); intro b16
          refine Seq.storeTo (cs' := u.enc) sz.api_Event (hH := At.z) (hfit := Nat.le_of_ble_eq_true rfl) (hcs := rfl) (k := ?_)
          refine Seq.p rfl Ev.assign ?_
          refine Seq.p rfl Ev.assign ?_
          refine Seq.nil ?_
          refine JC.seq ?_
          refine JC.rs ?_
          refine Seq.p rfl Ev.move ?_
          refine Seq.p rfl Ev.eq ?_
          refine Seq.p rfl Ev.move ?_
          refine Seq.andG (D := [83, 84, 85, 86]) (d := 83) (t := 86) (k := 3) (hn := fun h83 => ?_) (hx := ?_)
          · repeat (first | refine Seq.gn rfl rfl rfl rfl ?_ | refine Seq.gu rfl rfl rfl ?_)
            refine Seq.p rfl Ev.pickF ?_
            exact Seq.nil ⟨rfl, (by repeat (first | with_reducible exact Off.refl | refine Off.upd ?_ rfl | exact Off.mix | refine Off.mix2 ?_ rfl)), Look.here⟩
          apply Exists.intro
          refine ⟨fun h83 => ?_, fun u86 => ?_⟩
          · try simp only [decide_eq_true_eq, decide_eq_false_iff_not, Bool.and_eq_true, Bool.or_eq_true, Bool.not_eq_true', Bool.not_eq_false', Bool.or_eq_false_iff, Bool.and_eq_false_imp] at h83
            refine Seq.gy rfl rfl rfl ?_
            refine Seq.p rfl Ev.move ?_
            refine Seq.gy rfl rfl rfl ?_
            refine Seq.p rfl Ev.eq ?_
            refine Seq.p rfl Ev.pickT ?_
            exact Seq.nil ⟨rfl, (by repeat (first | with_reducible exact Off.refl | refine Off.upd ?_ rfl | exact Off.mix | refine Off.mix2 ?_ rfl)), Look.here⟩
          refine Seq.nil ?_
          first | refine JC.c (ht := fun c86 => ?_) (hf := fun c86 => ?_) | refine JC.cb (ht := fun c86 => ?_) (hf := fun c86 => ?_)
          · -- then_t86
            simp only [Bool.and_eq_true, decide_eq_true_eq] at c86
            exact absurd c86 hno2
          · -- else_t86
            refine JC.skip ?_
            refine JC.seq ?_
            refine JC.rs ?_
            refine Seq.p rfl Ev.move ?_
            refine Seq.p rfl Ev.eq ?_
            refine Seq.nil ?_
            first | refine JC.c (ht := fun c88 => ?_) (hf := fun c88 => ?_) | refine JC.cb (ht := fun c88 => ?_) (hf := fun c88 => ?_)
            · -- then_t88
              obtain ⟨hjw, hjl, hn, hs1, hs2⟩ := okL c88
              subst hn
              refine JC.rs ?_
              refine Seq.p rfl (Ev.ldBA (cs := j.enc) ag.api_Input) ?_
              refine Seq.call rfl (fun w' hw => by have h := msgLine (w := w') hjw (hL.t.upd hw); rw [hjl] at h; exact h) (F := _) (by exact List.Perm.refl _) ?_
              rintro _ _ ⟨A91, c91, rfl, rfl⟩
              simp only [List.cons_append, List.nil_append]
              refine Seq.p rfl Ev.move ?_
              refine Seq.p rfl Ev.extract ?_
              refine Seq.p rfl Ev.extract ?_
              refine Seq.p rfl Ev.assign ?_
              refine Seq.p rfl Ev.assign ?_
              refine Seq.nil ?_
              refine JC.qs mixed (by kernel_rfl) ?_
              refine Qui.p rfl Ev.move ?_
              refine Qui.p rfl Ev.ne ?_
              refine Qui.p rfl Ev.move ?_
              refine Qui.orG (D := [96, 97, 98, 99]) (d := 96) (t := 99) (k := 3) (hn := fun h96 => ?_) (hx := ?_)
              · repeat (first | refine Qui.gn rfl rfl rfl rfl ?_ | refine Qui.gu rfl rfl rfl ?_)
                refine Qui.p rfl Ev.pickT ?_
                exact Qui.nil ⟨(by repeat (first | with_reducible exact Off.refl | refine Off.upd ?_ rfl | exact Off.mix | refine Off.mix2 ?_ rfl)), Look.here⟩
              apply Exists.intro
              refine ⟨fun h96 => ?_, fun u99 => ?_⟩
              · try simp only [decide_eq_true_eq, decide_eq_false_iff_not, Bool.and_eq_true, Bool.or_eq_true, Bool.not_eq_true', Bool.not_eq_false', Bool.or_eq_false_iff, Bool.and_eq_false_imp] at h96
                refine Qui.gy rfl rfl rfl ?_
                refine Qui.p rfl Ev.move ?_
                refine Qui.gy rfl rfl rfl ?_
                refine Qui.p rfl Ev.lt ?_
                refine Qui.p rfl Ev.pickF ?_
                exact Qui.nil ⟨(by repeat (first | with_reducible exact Off.refl | refine Off.upd ?_ rfl | exact Off.mix | refine Off.mix2 ?_ rfl)), Look.here⟩
              refine Qui.p rfl Ev.move ?_
              refine Qui.orG (D := [100, 101, 102, 103, 104, 105]) (d := 100) (t := 105) (k := 5) (hn := fun h100 => ?_) (hx := ?_)
              · repeat (first | refine Qui.gn rfl rfl rfl rfl ?_ | refine Qui.gu rfl rfl rfl ?_)
                refine Qui.p rfl Ev.pickT ?_
                exact Qui.nil ⟨(by repeat (first | with_reducible exact Off.refl | refine Off.upd ?_ rfl | exact Off.mix | refine Off.mix2 ?_ rfl)), Look.here⟩
              apply Exists.intro
              refine ⟨fun h100 => ?_, fun u105 => ?_⟩
              · try simp only [decide_eq_true_eq, decide_eq_false_iff_not, Bool.and_eq_true, Bool.or_eq_true, Bool.not_eq_true', Bool.not_eq_false', Bool.or_eq_false_iff, Bool.and_eq_false_imp] at h100
                refine Qui.gy rfl rfl rfl ?_
                refine Qui.p rfl Ev.move ?_
                refine Qui.gy rfl rfl rfl ?_
                refine Qui.p rfl Ev.move ?_
                refine Qui.gy rfl rfl rfl ?_
                refine Qui.p rfl (Ev.lenSl sl.sl_uint8 (hr := hr.r)) ?_
                refine Qui.gy rfl rfl rfl ?_
                refine Qui.p rfl Ev.gt ?_
                refine Qui.p rfl Ev.pickF ?_
                exact Qui.nil ⟨(by repeat (first | with_reducible exact Off.refl | refine Off.upd ?_ rfl | exact Off.mix | refine Off.mix2 ?_ rfl)), Look.here⟩
              refine Qui.p rfl Ev.move ?_
              refine Qui.orG (D := [106, 107, 108, 109, 110, 111, 112, 113, 114]) (d := 106) (t := 114) (k := 8) (hn := fun h106 => ?_) (hx := ?_)
              · repeat (first | refine Qui.gn rfl rfl rfl rfl ?_ | refine Qui.gu rfl rfl rfl ?_)
                refine Qui.p rfl Ev.pickT ?_
                exact Qui.nil ⟨(by repeat (first | with_reducible exact Off.refl | refine Off.upd ?_ rfl | exact Off.mix | refine Off.mix2 ?_ rfl)), Look.here⟩
              apply Exists.intro
              refine ⟨fun h106 => ?_, fun u114 => ?_⟩
              · try simp only [decide_eq_true_eq, decide_eq_false_iff_not, Bool.and_eq_true, Bool.or_eq_true, Bool.not_eq_true', Bool.not_eq_false', Bool.or_eq_false_iff, Bool.and_eq_false_imp] at h106
                refine Qui.gy rfl rfl rfl ?_
                refine Qui.p rfl Ev.move ?_
                refine Qui.gy rfl rfl rfl ?_
                refine Qui.p rfl (Ev.strOf (l := l.take zz) sl.sl_uint8 it.uint8 st.string (hr := RAt.own (enc := byteEnc) (xs := l.take zz) (hs := by rw [List.length_take]; omega))) ?_
                refine Qui.gy rfl rfl rfl ?_
                refine Qui.p rfl Ev.move ?_
                refine Qui.gy rfl rfl rfl ?_
                refine Qui.p rfl Ev.move ?_
                refine Qui.gy rfl rfl rfl ?_
                refine Qui.p rfl (Ev.cut sl.sl_uint8 (hr := hr.r) (l := 0) (h := zz) (hlo := rfl) (hhi := ⟨_, (by repeat (first | exact Look.here | apply Look.there (hne := rfl) | exact Look.const | apply Look.mix rfl | exact Look.arg0 | apply Look.args | exact Look.func))⟩)) ?_
                refine Qui.gy rfl rfl rfl ?_
                refine Qui.p rfl (Ev.strOf (l := l.take zz) sl.sl_uint8 it.uint8 st.string (hr := (hr.sub (lo := 0) (hi := zz) (by omega) hs2).r)) ?_
                refine Qui.gy rfl rfl rfl ?_
                refine Qui.p rfl Ev.neStr ?_
                refine Qui.p rfl Ev.pickF ?_
                exact Qui.nil ⟨(by repeat (first | with_reducible exact Off.refl | refine Off.upd ?_ rfl | exact Off.mix | refine Off.mix2 ?_ rfl)), Look.here⟩
              refine Qui.nil ?_
              first | refine JC.c (ht := fun c114 => ?_) (hf := fun c114 => ?_) | refine JC.cb (ht := fun c114 => ?_) (hf := fun c114 => ?_)
              · -- then_t114
                exfalso
                simp at c114
                omega
              · -- else_t114
                refine JC.skip ?_
                refine JC.seq ?_
                refine JC.rs ?_
                refine Seq.p rfl Ev.move ?_
                refine Seq.p rfl Ev.eq ?_
                refine Seq.nil ?_
                first | refine JC.c (ht := fun c116 => ?_) (hf := fun c116 => ?_) | refine JC.cb (ht := fun c116 => ?_) (hf := fun c116 => ?_)
                · -- then_t116
                  obtain ⟨huw, hul, hm, hs1, hs2⟩ := okV c116
                  subst hm
                  refine JC.rs ?_
                  refine Seq.p rfl (Ev.ldBA (cs := u.enc) ag.api_Event) ?_
                  refine Seq.call rfl (fun w' hw => by have h := msgEventLine (w := w') huw (hL.t.upd hw); rw [hul] at h; exact h) (F := _) (by exact List.Perm.refl _) ?_
                  rintro _ _ ⟨A119, c119, rfl, rfl⟩
                  simp only [List.cons_append, List.nil_append]
                  refine Seq.p rfl Ev.move ?_
                  refine Seq.p rfl Ev.extract ?_
                  refine Seq.p rfl Ev.extract ?_
                  refine Seq.p rfl Ev.assign ?_
                  refine Seq.p rfl Ev.assign ?_
                  refine Seq.nil ?_
                  refine JC.qs mixed (by kernel_rfl) ?_
                  refine Qui.p rfl Ev.move ?_
                  refine Qui.p rfl Ev.ne ?_
                  refine Qui.p rfl Ev.move ?_
                  refine Qui.orG (D := [124, 125, 126, 127]) (d := 124) (t := 127) (k := 3) (hn := fun h124 => ?_) (hx := ?_)
                  · repeat (first | refine Qui.gn rfl rfl rfl rfl ?_ | refine Qui.gu rfl rfl rfl ?_)
                    refine Qui.p rfl Ev.pickT ?_
                    exact Qui.nil ⟨(by repeat (first | with_reducible exact Off.refl | refine Off.upd ?_ rfl | exact Off.mix | refine Off.mix2 ?_ rfl)), Look.here⟩
                  apply Exists.intro
                  refine ⟨fun h124 => ?_, fun u127 => ?_⟩
                  · try simp only [decide_eq_true_eq, decide_eq_false_iff_not, Bool.and_eq_true, Bool.or_eq_true, Bool.not_eq_true', Bool.not_eq_false', Bool.or_eq_false_iff, Bool.and_eq_false_imp] at h124
                    refine Qui.gy rfl rfl rfl ?_
                    refine Qui.p rfl Ev.move ?_
                    refine Qui.gy rfl rfl rfl ?_
                    refine Qui.p rfl Ev.lt ?_
                    refine Qui.p rfl Ev.pickF ?_
                    exact Qui.nil ⟨(by repeat (first | with_reducible exact Off.refl | refine Off.upd ?_ rfl | exact Off.mix | refine Off.mix2 ?_ rfl)), Look.here⟩
                  refine Qui.p rfl Ev.move ?_
                  refine Qui.orG (D := [128, 129, 130, 131, 132, 133]) (d := 128) (t := 133) (k := 5) (hn := fun h128 => ?_) (hx := ?_)
                  · repeat (first | refine Qui.gn rfl rfl rfl rfl ?_ | refine Qui.gu rfl rfl rfl ?_)
                    refine Qui.p rfl Ev.pickT ?_
                    exact Qui.nil ⟨(by repeat (first | with_reducible exact Off.refl | refine Off.upd ?_ rfl | exact Off.mix | refine Off.mix2 ?_ rfl)), Look.here⟩
                  apply Exists.intro
                  refine ⟨fun h128 => ?_, fun u133 => ?_⟩
                  · try simp only [decide_eq_true_eq, decide_eq_false_iff_not, Bool.and_eq_true, Bool.or_eq_true, Bool.not_eq_true', Bool.not_eq_false', Bool.or_eq_false_iff, Bool.and_eq_false_imp] at h128
                    refine Qui.gy rfl rfl rfl ?_
                    refine Qui.p rfl Ev.move ?_
                    refine Qui.gy rfl rfl rfl ?_
                    refine Qui.p rfl Ev.move ?_
                    refine Qui.gy rfl rfl rfl ?_
                    refine Qui.p rfl (Ev.lenSl sl.sl_uint8 (hr := hr.r)) ?_
                    refine Qui.gy rfl rfl rfl ?_
                    refine Qui.p rfl Ev.gt ?_
                    refine Qui.p rfl Ev.pickF ?_
                    exact Qui.nil ⟨(by repeat (first | with_reducible exact Off.refl | refine Off.upd ?_ rfl | exact Off.mix | refine Off.mix2 ?_ rfl)), Look.here⟩
                  refine Qui.p rfl Ev.move ?_
                  refine Qui.orG (D := [134, 135, 136, 137, 138, 139, 140, 141, 142]) (d := 134) (t := 142) (k := 8) (hn := fun h134 => ?_) (hx := ?_)
                  · repeat (first | refine Qui.gn rfl rfl rfl rfl ?_ | refine Qui.gu rfl rfl rfl ?_)
                    refine Qui.p rfl Ev.pickT ?_
                    exact Qui.nil ⟨(by repeat (first | with_reducible exact Off.refl | refine Off.upd ?_ rfl | exact Off.mix | refine Off.mix2 ?_ rfl)), Look.here⟩
                  apply Exists.intro
                  refine ⟨fun h134 => ?_, fun u142 => ?_⟩
                  · try simp only [decide_eq_true_eq, decide_eq_false_iff_not, Bool.and_eq_true, Bool.or_eq_true, Bool.not_eq_true', Bool.not_eq_false', Bool.or_eq_false_iff, Bool.and_eq_false_imp] at h134
                    refine Qui.gy rfl rfl rfl ?_
                    refine Qui.p rfl Ev.move ?_
                    refine Qui.gy rfl rfl rfl ?_
                    refine Qui.p rfl (Ev.strOf (l := l.take zz) sl.sl_uint8 it.uint8 st.string (hr := RAt.own (enc := byteEnc) (xs := l.take zz) (hs := by rw [List.length_take]; omega))) ?_
                    refine Qui.gy rfl rfl rfl ?_
                    refine Qui.p rfl Ev.move ?_
                    refine Qui.gy rfl rfl rfl ?_
                    refine Qui.p rfl Ev.move ?_
                    refine Qui.gy rfl rfl rfl ?_
                    refine Qui.p rfl (Ev.cut sl.sl_uint8 (hr := hr.r) (l := 0) (h := zz) (hlo := rfl) (hhi := ⟨_, (by repeat (first | exact Look.here | apply Look.there (hne := rfl) | exact Look.const | apply Look.mix rfl | exact Look.arg0 | apply Look.args | exact Look.func))⟩)) ?_
                    refine Qui.gy rfl rfl rfl ?_
                    refine Qui.p rfl (Ev.strOf (l := l.take zz) sl.sl_uint8 it.uint8 st.string (hr := (hr.sub (lo := 0) (hi := zz) (by omega) hs2).r)) ?_
                    refine Qui.gy rfl rfl rfl ?_
                    refine Qui.p rfl Ev.neStr ?_
                    refine Qui.p rfl Ev.pickF ?_
                    exact Qui.nil ⟨(by repeat (first | with_reducible exact Off.refl | refine Off.upd ?_ rfl | exact Off.mix | refine Off.mix2 ?_ rfl)), Look.here⟩
                  refine Qui.nil ?_
                  first | refine JC.c (ht := fun c142 => ?_) (hf := fun c142 => ?_) | refine JC.cb (ht := fun c142 => ?_) (hf := fun c142 => ?_)
                  · -- then_t142
                    exfalso
                    simp at c142
                    omega
                  · -- else_t142
                    refine JC.skip ?_
                    refine JC.rs ?_
                    refine Seq.p rfl Ev.assign ?_
                    refine Seq.nil ?_
                    refine JC.ret ?_
                    show retQ _ _ _ _ _ _ _ _
                    refine ret1 (hp := Part.nil _) (hpost := ?_)
                    rfl
                · -- else_t116
                  refine JC.skip ?_
                  refine JC.rs ?_
                  refine Seq.p rfl Ev.assign ?_
                  refine Seq.nil ?_
                  refine JC.ret ?_
                  show retQ _ _ _ _ _ _ _ _
                  refine ret1 (hp := Part.nil _) (hpost := ?_)
                  rfl
            · -- else_t88
              refine JC.skip ?_
              refine JC.seq ?_
              refine JC.rs ?_
              refine Seq.p rfl Ev.move ?_
              refine Seq.p rfl Ev.eq ?_
              refine Seq.nil ?_
              first | refine JC.c (ht := fun c116 => ?_) (hf := fun c116 => ?_) | refine JC.cb (ht := fun c116 => ?_) (hf := fun c116 => ?_)
              · -- then_t116
                obtain ⟨huw, hul, hm, hs1, hs2⟩ := okV c116
                subst hm
                refine JC.rs ?_
                refine Seq.p rfl (Ev.ldBA (cs := u.enc) ag.api_Event) ?_
                refine Seq.call rfl (fun w' hw => by have h := msgEventLine (w := w') huw (hL.t.upd hw); rw [hul] at h; exact h) (F := _) (by exact List.Perm.refl _) ?_
                rintro _ _ ⟨A119, c119, rfl, rfl⟩
                simp only [List.cons_append, List.nil_append]
                refine Seq.p rfl Ev.move ?_
                refine Seq.p rfl Ev.extract ?_
                refine Seq.p rfl Ev.extract ?_
                refine Seq.p rfl Ev.assign ?_
                refine Seq.p rfl Ev.assign ?_
                refine Seq.nil ?_
                refine JC.qs mixed (by kernel_rfl) ?_
                refine Qui.p rfl Ev.move ?_
                refine Qui.p rfl Ev.ne ?_
                refine Qui.p rfl Ev.move ?_
                refine Qui.orG (D := [124, 125, 126, 127]) (d := 124) (t := 127) (k := 3) (hn := fun h124 => ?_) (hx := ?_)
                · repeat (first | refine Qui.gn rfl rfl rfl rfl ?_ | refine Qui.gu rfl rfl rfl ?_)
                  refine Qui.p rfl Ev.pickT ?_
                  exact Qui.nil ⟨(by repeat (first | with_reducible exact Off.refl | refine Off.upd ?_ rfl | exact Off.mix | refine Off.mix2 ?_ rfl)), Look.here⟩
                apply Exists.intro
                refine ⟨fun h124 => ?_, fun u127 => ?_⟩
                · try simp only [decide_eq_true_eq, decide_eq_false_iff_not, Bool.and_eq_true, Bool.or_eq_true, Bool.not_eq_true', Bool.not_eq_false', Bool.or_eq_false_iff, Bool.and_eq_false_imp] at h124
                  refine Qui.gy rfl rfl rfl ?_
                  refine Qui.p rfl Ev.move ?_
                  refine Qui.gy rfl rfl rfl ?_
                  refine Qui.p rfl Ev.lt ?_
                  refine Qui.p rfl Ev.pickF ?_
                  exact Qui.nil ⟨(by repeat (first | with_reducible exact Off.refl | refine Off.upd ?_ rfl | exact Off.mix | refine Off.mix2 ?_ rfl)), Look.here⟩
                refine Qui.p rfl Ev.move ?_
                refine Qui.orG (D := [128, 129, 130, 131, 132, 133]) (d := 128) (t := 133) (k := 5) (hn := fun h128 => ?_) (hx := ?_)
                · repeat (first | refine Qui.gn rfl rfl rfl rfl ?_ | refine Qui.gu rfl rfl rfl ?_)
                  refine Qui.p rfl Ev.pickT ?_
                  exact Qui.nil ⟨(by repeat (first | with_reducible exact Off.refl | refine Off.upd ?_ rfl | exact Off.mix | refine Off.mix2 ?_ rfl)), Look.here⟩
                apply Exists.intro
                refine ⟨fun h128 => ?_, fun u133 => ?_⟩
                · try simp only [decide_eq_true_eq, decide_eq_false_iff_not, Bool.and_eq_true, Bool.or_eq_true, Bool.not_eq_true', Bool.not_eq_false', Bool.or_eq_false_iff, Bool.and_eq_false_imp] at h128
                  refine Qui.gy rfl rfl rfl ?_
                  refine Qui.p rfl Ev.move ?_
                  refine Qui.gy rfl rfl rfl ?_
                  refine Qui.p rfl Ev.move ?_
                  refine Qui.gy rfl rfl rfl ?_
                  refine Qui.p rfl (Ev.lenSl sl.sl_uint8 (hr := hr.r)) ?_
                  refine Qui.gy rfl rfl rfl ?_
                  refine Qui.p rfl Ev.gt ?_
                  refine Qui.p rfl Ev.pickF ?_
                  exact Qui.nil ⟨(by repeat (first | with_reducible exact Off.refl | refine Off.upd ?_ rfl | exact Off.mix | refine Off.mix2 ?_ rfl)), Look.here⟩
                refine Qui.p rfl Ev.move ?_
                refine Qui.orG (D := [134, 135, 136, 137, 138, 139, 140, 141, 142]) (d := 134) (t := 142) (k := 8) (hn := fun h134 => ?_) (hx := ?_)
                · repeat (first | refine Qui.gn rfl rfl rfl rfl ?_ | refine Qui.gu rfl rfl rfl ?_)
                  refine Qui.p rfl Ev.pickT ?_
                  exact Qui.nil ⟨(by repeat (first | with_reducible exact Off.refl | refine Off.upd ?_ rfl | exact Off.mix | refine Off.mix2 ?_ rfl)), Look.here⟩
                apply Exists.intro
                refine ⟨fun h134 => ?_, fun u142 => ?_⟩
                · try simp only [decide_eq_true_eq, decide_eq_false_iff_not, Bool.and_eq_true, Bool.or_eq_true, Bool.not_eq_true', Bool.not_eq_false', Bool.or_eq_false_iff, Bool.and_eq_false_imp] at h134
                  refine Qui.gy rfl rfl rfl ?_
                  refine Qui.p rfl Ev.move ?_
                  refine Qui.gy rfl rfl rfl ?_
                  refine Qui.p rfl (Ev.strOf (l := l.take zz) sl.sl_uint8 it.uint8 st.string (hr := RAt.own (enc := byteEnc) (xs := l.take zz) (hs := by rw [List.length_take]; omega))) ?_
                  refine Qui.gy rfl rfl rfl ?_
                  refine Qui.p rfl Ev.move ?_
                  refine Qui.gy rfl rfl rfl ?_
                  refine Qui.p rfl Ev.move ?_
                  refine Qui.gy rfl rfl rfl ?_
                  refine Qui.p rfl (Ev.cut sl.sl_uint8 (hr := hr.r) (l := 0) (h := zz) (hlo := rfl) (hhi := ⟨_, (by repeat (first | exact Look.here | apply Look.there (hne := rfl) | exact Look.const | apply Look.mix rfl | exact Look.arg0 | apply Look.args | exact Look.func))⟩)) ?_
                  refine Qui.gy rfl rfl rfl ?_
                  refine Qui.p rfl (Ev.strOf (l := l.take zz) sl.sl_uint8 it.uint8 st.string (hr := (hr.sub (lo := 0) (hi := zz) (by omega) hs2).r)) ?_
                  refine Qui.gy rfl rfl rfl ?_
                  refine Qui.p rfl Ev.neStr ?_
                  refine Qui.p rfl Ev.pickF ?_
                  exact Qui.nil ⟨(by repeat (first | with_reducible exact Off.refl | refine Off.upd ?_ rfl | exact Off.mix | refine Off.mix2 ?_ rfl)), Look.here⟩
                refine Qui.nil ?_
                first | refine JC.c (ht := fun c142 => ?_) (hf := fun c142 => ?_) | refine JC.cb (ht := fun c142 => ?_) (hf := fun c142 => ?_)
                · -- then_t142
                  exfalso
                  simp at c142
                  omega
                · -- else_t142
                  refine JC.skip ?_
                  refine JC.rs ?_
                  refine Seq.p rfl Ev.assign ?_
                  refine Seq.nil ?_
                  refine JC.ret ?_
                  show retQ _ _ _ _ _ _ _ _
                  refine ret1 (hp := Part.nil _) (hpost := ?_)
                  rfl
              · -- else_t116
                refine JC.skip ?_
                refine JC.rs ?_
                refine Seq.p rfl Ev.assign ?_
                refine Seq.nil ?_
                refine JC.ret ?_
                show retQ _ _ _ _ _ _ _ _
                refine ret1 (hp := Part.nil _) (hpost := ?_)
                rfl
end Go.Rx
