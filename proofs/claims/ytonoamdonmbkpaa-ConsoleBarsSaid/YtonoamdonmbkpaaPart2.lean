/- Parts of the proof. -/
import Derived.Test.YtonoamdonmbkpaaPart1
set_option linter.unusedVariables false
set_option linter.unusedSimpArgs false
/- The law ConsoleBars gives true: the cut lies within. -/
namespace Go.Rx
open Go Go.RowKit
set_option linter.unusedVariables false
set_option linter.unusedSimpArgs false
set_option maxHeartbeats 4000000 in
set_option maxRecDepth 100000 in
theorem lawBarsIn {w : World} {v : Value} {es : List Event} {each cut : Int} (he : RSl Event.enc 13 w [] v es) (hlim : es.length * 104 ≤ 140737488355328) (hq : goodQ es) (hcut : 0 ≤ cut ∧ cut ≤ es.length) :
    Spec Go.Proofs.Try.prog 3 #[v, .int .i64 each, .int .i64 cut] w [] (fun u _ => u = .bool true) := by
  have hs := he.small
  have hTq := tradesF_q hq
  have hTl := tradesF_len es
  have hTc : ∀ k, tradesF (es.take k) ++ tradesF (es.drop k) = tradesF es := fun k => by rw [← tradesF_append, List.take_append_drop]
  refine Spec.enter (fn := Go.Proofs.Try.f3) (n := 238) [v, .int .i64 each, .int .i64 cut] Go.Proofs.Try.func3 (by kernel_rfl) rfl Go.Proofs.Try.ntmps3 Go.Proofs.Try.results3 rfl (Own.nil _) ?_
  refine JC.rs ?_
  refine Seq.p rfl Ev.assign ?_
  refine Seq.nil ?_
  refine JC.rs ?_
  refine Seq.call rfl (fun w hw => statsNew) (F := _) (by exact List.Perm.refl _) ?_
  rintro _ _ ⟨b17, rfl, rfl⟩
  simp only [List.cons_append, List.nil_append]
  refine Seq.call rfl (fun w hw => statsNew) (F := _) (by exact List.Perm.refl _) ?_
  rintro _ _ ⟨b18, rfl, rfl⟩
  simp only [List.cons_append, List.nil_append]
  refine Seq.p rfl Ev.assign ?_
  refine Seq.p rfl Ev.assign ?_
  refine Seq.nil ?_
  refine JC.seq ?_
  refine JC.rs ?_
  refine Seq.p rfl Ev.move ?_
  refine Seq.p rfl (Ev.eqNilP und.p_console_Stats) ?_
  refine Seq.p rfl Ev.move ?_
  refine Seq.orG (D := [21, 22, 23, 24]) (d := 21) (t := 24) (k := 3) (hn := fun h21 => ?_) (hx := ?_)
  · repeat (first | refine Seq.gn rfl rfl rfl rfl ?_ | refine Seq.gu rfl rfl rfl ?_)
    refine Seq.p rfl Ev.pickT ?_
    exact Seq.nil ⟨rfl, (by repeat (first | with_reducible exact Off.refl | refine Off.upd ?_ rfl | exact Off.mix | refine Off.mix2 ?_ rfl)), Look.here⟩
  apply Exists.intro
  refine ⟨fun h21 => ?_, fun u24 => ?_⟩
  · try simp only [decide_eq_true_eq, decide_eq_false_iff_not, Bool.and_eq_true, Bool.or_eq_true, Bool.not_eq_true', Bool.not_eq_false', Bool.or_eq_false_iff, Bool.and_eq_false_imp] at h21
    refine Seq.gy rfl rfl rfl ?_
    refine Seq.p rfl Ev.move ?_
    refine Seq.gy rfl rfl rfl ?_
    refine Seq.p rfl (Ev.eqNilP und.p_console_Stats) ?_
    refine Seq.p rfl Ev.pickF ?_
    exact Seq.nil ⟨rfl, (by repeat (first | with_reducible exact Off.refl | refine Off.upd ?_ rfl | exact Off.mix | refine Off.mix2 ?_ rfl)), Look.here⟩
  refine Seq.p rfl Ev.move ?_
  refine Seq.orG (D := [25, 26, 27, 28]) (d := 25) (t := 28) (k := 3) (hn := fun h25 => ?_) (hx := ?_)
  · repeat (first | refine Seq.gn rfl rfl rfl rfl ?_ | refine Seq.gu rfl rfl rfl ?_)
    refine Seq.p rfl Ev.pickT ?_
    exact Seq.nil ⟨rfl, (by repeat (first | with_reducible exact Off.refl | refine Off.upd ?_ rfl | exact Off.mix | refine Off.mix2 ?_ rfl)), Look.here⟩
  apply Exists.intro
  refine ⟨fun h25 => ?_, fun u28 => ?_⟩
  · try simp only [decide_eq_true_eq, decide_eq_false_iff_not, Bool.and_eq_true, Bool.or_eq_true, Bool.not_eq_true', Bool.not_eq_false', Bool.or_eq_false_iff, Bool.and_eq_false_imp] at h25
    refine Seq.gy rfl rfl rfl ?_
    refine Seq.p rfl Ev.move ?_
    refine Seq.gy rfl rfl rfl ?_
    refine Seq.p rfl Ev.lt ?_
    refine Seq.p rfl Ev.pickF ?_
    exact Seq.nil ⟨rfl, (by repeat (first | with_reducible exact Off.refl | refine Off.upd ?_ rfl | exact Off.mix | refine Off.mix2 ?_ rfl)), Look.here⟩
  refine Seq.nil ?_
  first | refine JC.c (ht := fun c28 => ?_) (hf := fun c28 => ?_) | refine JC.cb (ht := fun c28 => ?_) (hf := fun c28 => ?_)
  · -- then_t28
    refine JC.rs ?_
    refine Seq.p rfl Ev.move ?_
    refine Seq.p rfl (Ev.neNilP und.p_console_Stats) ?_
    refine Seq.p rfl Ev.move ?_
    refine Seq.andG (D := [31, 32, 33, 34]) (d := 31) (t := 34) (k := 3) (hn := fun h31 => ?_) (hx := ?_)
    · repeat (first | refine Seq.gn rfl rfl rfl rfl ?_ | refine Seq.gu rfl rfl rfl ?_)
      refine Seq.p rfl Ev.pickF ?_
      exact Seq.nil ⟨rfl, (by repeat (first | with_reducible exact Off.refl | refine Off.upd ?_ rfl | exact Off.mix | refine Off.mix2 ?_ rfl)), Look.here⟩
    apply Exists.intro
    refine ⟨fun h31 => ?_, fun u34 => ?_⟩
    · try simp only [decide_eq_true_eq, decide_eq_false_iff_not, Bool.and_eq_true, Bool.or_eq_true, Bool.not_eq_true', Bool.not_eq_false', Bool.or_eq_false_iff, Bool.and_eq_false_imp] at h31
      refine Seq.gy rfl rfl rfl ?_
      refine Seq.p rfl Ev.move ?_
      refine Seq.gy rfl rfl rfl ?_
      refine Seq.p rfl (Ev.neNilP und.p_console_Stats) ?_
      refine Seq.p rfl Ev.pickT ?_
      exact Seq.nil ⟨rfl, (by repeat (first | with_reducible exact Off.refl | refine Off.upd ?_ rfl | exact Off.mix | refine Off.mix2 ?_ rfl)), Look.here⟩
    refine Seq.p rfl Ev.move ?_
    refine Seq.split (d := 35) (k := ?_)
    rintro (_|_) h35
    · try simp only [decide_eq_true_eq, decide_eq_false_iff_not] at h35
      simp at h35
    · try simp only [decide_eq_true_eq, decide_eq_false_iff_not] at h35
      refine Seq.gy rfl rfl rfl ?_
      refine Seq.p rfl Ev.move ?_
      refine Seq.gy rfl rfl rfl ?_
      refine Seq.p rfl Ev.move ?_
      refine Seq.gy rfl rfl rfl ?_
      refine Seq.call rfl (fun w hw => atBars (b := b17) (v := .slice none 0 0) (l := []) (At.s (At.s At.z)) (At.s (At.s (At.s At.z))) (by simp) (by simp) hw) (Gs := []) (F := _) (by exact List.Perm.refl _) ?_
      rintro _ _ ⟨A38, c38, rfl, rfl⟩
      rw [barsF_nil]
      simp only [List.cons_append, List.nil_append]
      refine Seq.gy rfl rfl rfl ?_
      refine Seq.p rfl (Ev.lenSl sl.sl_api_Bar (hr := RAt.own (enc := Bar.enc) (xs := []) At.z rfl rfl (fun _ => rfl) (by simp))) ?_
      refine Seq.gy rfl rfl rfl ?_
      refine Seq.p rfl Ev.eq ?_
      refine Seq.p rfl Ev.pickT ?_
      refine Seq.p rfl Ev.assign ?_
      refine Seq.nil ?_
      refine JC.ret ?_
      show retQ _ _ _ _ _ _ _ _
      refine ret1 (hp := Part.nil _) (hpost := ?_)
      first | (simp [*]; done) | (simp; omega)
  · -- else_t28
    refine JC.skip ?_
    refine JC.rs ?_
    refine Seq.p rfl Ev.move ?_
    refine Seq.buildSl (cs := []) (hsl := sl.sl_api_Event) (hz := z.api_Event) (hcs := rfl) (k := ?_); intro b43
    refine Seq.re (fun w h => Upd.boxOwn h (n := 0) (size := 13) At.z rfl (by omega)) ?_
    refine Seq.p rfl Ev.move ?_
    refine Seq.append (hsl := sl.sl_api_Event) (he := el.api_Event) (hH := At.z) (hsrc := fun w' hw => Src.rsl sl.sl_api_Event (he.up hw) (by omega) evOne) (k := ?_); intro A45 c45
    rw [Nat.zero_add es.length, List.nil_append]
    refine Seq.call rfl (fun w' hw => statsAdd (l := []) (bs := b17) (A := none) (c := 0) (es := es) (hw.part (by repeat (first | exact Part.nil _ | refine Part.at (by repeat (first | exact At.z | apply At.s)) ?_))).own ((RSl.owned (enc := Event.enc) (xs := es) At.z hw rfl rfl (fun _ => rfl) hs).part (by repeat (first | exact Part.nil _ | refine Part.at (by repeat (first | exact At.z | apply At.s)) ?_))) (by simp; omega) hq) (Gs := [statsC b17 (.slice none 0 0), trdC (.slice none 0 0) []]) (F := [_, _, _]) (by exact (List.perm_append_comm (l₁ := [_, _]) (l₂ := [_, _, _]))) ?_
    rintro _ _ ⟨A46, c46, rfl⟩
    simp only [List.cons_append, List.nil_append]
    refine Seq.nil ?_
    refine JC.seq ?_
    refine JC.rs ?_
    refine Seq.p rfl Ev.move ?_
    refine Seq.p rfl Ev.lt ?_
    refine Seq.p rfl Ev.move ?_
    refine Seq.orG (D := [49, 50, 51, 52, 53, 54]) (d := 49) (t := 54) (k := 5) (hn := fun h49 => ?_) (hx := ?_)
    · repeat (first | refine Seq.gn rfl rfl rfl rfl ?_ | refine Seq.gu rfl rfl rfl ?_)
      refine Seq.p rfl Ev.pickT ?_
      exact Seq.nil ⟨rfl, (by repeat (first | with_reducible exact Off.refl | refine Off.upd ?_ rfl | exact Off.mix | refine Off.mix2 ?_ rfl)), Look.here⟩
    apply Exists.intro
    refine ⟨fun h49 => ?_, fun u54 => ?_⟩
    · try simp only [decide_eq_true_eq, decide_eq_false_iff_not, Bool.and_eq_true, Bool.or_eq_true, Bool.not_eq_true', Bool.not_eq_false', Bool.or_eq_false_iff, Bool.and_eq_false_imp] at h49
      refine Seq.gy rfl rfl rfl ?_
      refine Seq.p rfl Ev.move ?_
      refine Seq.gy rfl rfl rfl ?_
      refine Seq.p rfl Ev.move ?_
      refine Seq.gy rfl rfl rfl ?_
      refine Seq.p rfl (Ev.lenSl sl.sl_api_Event (hr := he.r)) ?_
      refine Seq.gy rfl rfl rfl ?_
      refine Seq.p rfl Ev.gt ?_
      refine Seq.p rfl Ev.pickF ?_
      exact Seq.nil ⟨rfl, (by repeat (first | with_reducible exact Off.refl | refine Off.upd ?_ rfl | exact Off.mix | refine Off.mix2 ?_ rfl)), Look.here⟩
    refine Seq.nil ?_
    first | refine JC.c (ht := fun c54 => ?_) (hf := fun c54 => ?_) | refine JC.cb (ht := fun c54 => ?_) (hf := fun c54 => ?_)
    · -- then_t54
      simp only [Bool.or_eq_true, decide_eq_true_eq] at c54; omega
    · -- else_t54
      have hcc : 0 ≤ cut ∧ cut ≤ es.length := by simp only [Bool.or_eq_false_iff, decide_eq_false_iff_not] at c54; omega
      obtain ⟨k, rfl⟩ : ∃ k : Nat, cut = (k : Int) := ⟨cut.toNat, by omega⟩
      have hkl : k ≤ es.length := by omega
      have hsub1 := he.sub (lo := 0) (hi := k) (by omega) hkl
      rw [List.drop_zero, Nat.sub_zero] at hsub1
      have hsub2 := he.sub (lo := k) (hi := es.length) hkl (by omega)
      rw [List.take_of_length_le (by rw [List.length_drop]; exact Nat.le_refl _)] at hsub2
      have hp1 : (es.take k).length = k := by rw [List.length_take]; omega
      have hp2 : (es.drop k).length = es.length - k := List.length_drop ..
      have hT2 := hTc k
      have hq1 : goodQ (es.take k) := fun e h => hq e (List.mem_of_mem_take h)
      have hq2 : goodQ (es.drop k) := fun e h => hq e (List.mem_of_mem_drop h)
      have ht1 := tradesF_len (es.take k)
      obtain ⟨P1, hP1⟩ : ∃ P, P = es.take k := ⟨_, rfl⟩
      obtain ⟨P2, hP2⟩ : ∃ P, P = es.drop k := ⟨_, rfl⟩
      rw [← hP1] at hsub1 hp1 hT2 hq1 ht1
      rw [← hP2] at hsub2 hp2 hT2 hq2
      refine JC.skip ?_
      refine JC.rs ?_
      refine Seq.p rfl Ev.move ?_
      refine Seq.buildSl (cs := []) (hsl := sl.sl_api_Event) (hz := z.api_Event) (hcs := rfl) (k := ?_); intro b56
      refine Seq.re (fun w h => Upd.boxOwn h (n := 0) (size := 13) At.z rfl (by omega)) ?_
      refine Seq.p rfl Ev.move ?_
      refine Seq.p rfl Ev.move ?_
      refine Seq.p rfl (Ev.cut sl.sl_api_Event (hr := he.r) (l := 0) (h := k) (hlo := rfl) (hhi := ⟨_, (by repeat (first | exact Look.here | apply Look.there (hne := rfl) | exact Look.const | apply Look.mix rfl | exact Look.arg0 | apply Look.args | exact Look.func))⟩)) ?_
      rw [show subSl v 0 k 13 = subSl v 0 k 13 from rfl]
      refine Seq.append (j := P1.length) (hsl := sl.sl_api_Event) (he := el.api_Event) (hH := At.z) (hsrc := fun w' hw => Src.rsl sl.sl_api_Event (hsub1.up hw) (by omega) evOne) (k := ?_); intro A60 c60
      rw [Nat.zero_add P1.length, List.nil_append]
      refine Seq.call rfl (fun w' hw => statsAdd (l := []) (bs := b18) (A := none) (c := 0) (es := P1) (hw.part (by repeat (first | exact Part.nil _ | refine Part.at (by repeat (first | exact At.z | apply At.s)) ?_))).own ((RSl.owned (enc := Event.enc) (xs := P1) At.z hw rfl rfl (fun _ => rfl) (by omega)).part (by repeat (first | exact Part.nil _ | refine Part.at (by repeat (first | exact At.z | apply At.s)) ?_))) (by simp; omega) hq1) (Gs := [statsC b18 (.slice none 0 0), trdC (.slice none 0 0) []]) (F := [_, _, _, _]) (by exact (List.perm_append_comm (l₁ := [_, _]) (l₂ := [_, _, _, _]))) ?_
      rintro _ _ ⟨A61, c61, rfl⟩
      simp only [List.cons_append, List.nil_append]
      refine Seq.nil ?_
      refine JC.rs ?_
      refine Seq.p rfl Ev.move ?_
      refine Seq.buildSl (cs := []) (hsl := sl.sl_api_Event) (hz := z.api_Event) (hcs := rfl) (k := ?_); intro b63
      refine Seq.re (fun w h => Upd.boxOwn h (n := 0) (size := 13) At.z rfl (by omega)) ?_
      refine Seq.p rfl Ev.move ?_
      refine Seq.p rfl Ev.move ?_
      refine Seq.p rfl (Ev.cut sl.sl_api_Event (hr := he.r) (l := k) (h := es.length) (hlo := ⟨_, (by repeat (first | exact Look.here | apply Look.there (hne := rfl) | exact Look.const | apply Look.mix rfl | exact Look.arg0 | apply Look.args | exact Look.func))⟩) (hhi := rfl)) ?_
      refine Seq.append (j := P2.length) (hsl := sl.sl_api_Event) (he := el.api_Event) (hH := At.z) (hsrc := fun w' hw => Src.rsl sl.sl_api_Event (hsub2.up hw) (by omega) evOne) (k := ?_); intro A67 c67
      rw [Nat.zero_add P2.length, List.nil_append]
      refine Seq.call rfl (fun w' hw => statsAdd (l := tradesF P1) (bs := b18) (A := A61) (c := c61) (es := P2) (hw.part (by repeat (first | exact Part.nil _ | refine Part.at (by repeat (first | exact At.z | apply At.s)) ?_))).own ((RSl.owned (enc := Event.enc) (xs := P2) At.z hw rfl rfl (fun _ => rfl) (by omega)).part (by repeat (first | exact Part.nil _ | refine Part.at (by repeat (first | exact At.z | apply At.s)) ?_))) (by omega) hq2) (Gs := [statsC b18 (.slice A61 (tradesF P1).length c61), trdC (.slice A61 (tradesF P1).length c61) (tradesF P1)]) (F := [_, _, _, _, _]) (by exact (List.perm_append_comm (l₁ := [_, _]) (l₂ := [_])).append_right [_, _, _, _]) ?_
      rintro _ _ ⟨A68, c68, rfl⟩
      rw [hT2]
      simp only [List.cons_append, List.nil_append]
      refine Seq.nil ?_
      refine JC.rs ?_
      refine Seq.p rfl Ev.move ?_
      refine Seq.callP rfl (fun w hw => atDay (l := tradesF es) (by repeat (first | exact At.z | apply At.s)) (by repeat (first | exact At.z | apply At.s)) (by omega) hTq hw) ?_
      refine Seq.p rfl Ev.move ?_
      refine Seq.p rfl Ev.move ?_
      refine Seq.call rfl (fun w hw => atBars (l := tradesF es) (by repeat (first | exact At.z | apply At.s)) (by repeat (first | exact At.z | apply At.s)) (by omega) hTq hw) (Gs := []) (F := _) (by exact List.Perm.refl _) ?_
      rintro _ _ ⟨A73, c73, rfl, rfl⟩
      simp only [List.cons_append, List.nil_append]
      have hBl := barsF_len each.toNat _ (tradesF es) (Nat.le_refl _)
      obtain ⟨B, hB⟩ : ∃ B, B = barsF each.toNat (tradesF es) := ⟨_, rfl⟩
      rw [← hB] at hBl ⊢
      refine Seq.alloc (cs := [_, _, _, _, _, _]) (hz := z.api_Bar) (k := ?_); intro b9
      refine Seq.storeTo (cs' := (barF (tradesF es)).enc) sz.api_Bar (hH := At.z) (hfit := Nat.le_of_ble_eq_true rfl) (hcs := rfl) (k := ?_)
      refine Seq.p rfl Ev.assign ?_
      refine Seq.nil ?_
      refine JC.rs ?_
      refine Seq.p rfl Ev.move ?_
      refine Seq.callP rfl (fun w hw => atMean (l := tradesF es) (by repeat (first | exact At.z | apply At.s)) (by repeat (first | exact At.z | apply At.s)) (by omega) hTq hw) ?_
      refine Seq.p rfl Ev.move ?_
      refine Seq.p rfl Ev.extract ?_
      refine Seq.p rfl Ev.extract ?_
      refine Seq.p rfl Ev.assign ?_
      refine Seq.p rfl Ev.assign ?_
      refine Seq.nil ?_
      refine JC.rs ?_
      refine Seq.p rfl Ev.move ?_
      refine Seq.callP rfl (fun w hw => atMean (l := tradesF es) (by repeat (first | exact At.z | apply At.s)) (by repeat (first | exact At.z | apply At.s)) (by omega) hTq hw) ?_
      refine Seq.p rfl Ev.move ?_
      refine Seq.p rfl Ev.extract ?_
      refine Seq.p rfl Ev.extract ?_
      refine Seq.p rfl Ev.assign ?_
      refine Seq.p rfl Ev.assign ?_
      refine Seq.nil ?_
      refine JC.seq ?_
      refine JC.as mixed ?_
      refine Any.p 0 rfl (by kernel_rfl) (by kernel_rfl) (by kernel_rfl) rfl (Ev.ldBA (cs := (barF (tradesF es)).enc) ag.api_Bar) ?_
      refine Any.p 1 rfl (by kernel_rfl) (by kernel_rfl) (by kernel_rfl) rfl Ev.move ?_
      refine Any.call 2 rfl (by kernel_rfl) (by kernel_rfl) (by kernel_rfl) rfl (fun w hw => atDay (l := tradesF es) (by repeat (first | exact At.z | apply At.s)) (by repeat (first | exact At.z | apply At.s)) (by omega) hTq hw) ?_
      refine Any.p 3 rfl (by kernel_rfl) (by kernel_rfl) (by kernel_rfl) rfl (Ev.as (v' := .bool false) (by rw [Bar.eqL_enc]; simp) (Ev.neAg (xs := (barF (tradesF es)).enc) (ys := (barF (tradesF es)).enc) so.api_Bar ag.api_Bar gd.api_Bar)) ?_
      refine Any.p 4 rfl (by kernel_rfl) (by kernel_rfl) (by kernel_rfl) rfl Ev.move ?_
      refine Any.split (d := 88) (k := ?_)
      rintro (_|_) h88
      · try simp only [decide_eq_true_eq, decide_eq_false_iff_not] at h88
        refine Any.gy 5 rfl (by kernel_rfl) (by kernel_rfl) (by kernel_rfl) rfl rfl rfl rfl Ev.move ?_
        refine Any.gy 6 rfl (by kernel_rfl) (by kernel_rfl) (by kernel_rfl) rfl rfl rfl rfl Ev.move ?_
        refine Any.gy 7 rfl (by kernel_rfl) (by kernel_rfl) (by kernel_rfl) rfl rfl rfl rfl Ev.move ?_
        refine Any.one 8 rfl (by kernel_rfl) ?_
        refine Seq.gy rfl rfl rfl ?_
        refine Seq.call rfl (fun w hw => atBars (l := tradesF es) (by repeat (first | exact At.z | apply At.s)) (by repeat (first | exact At.z | apply At.s)) (by omega) hTq hw) (Gs := []) (F := _) (by exact List.Perm.refl _) ?_
        rintro _ _ ⟨A92, c92, rfl, rfl⟩
        rw [← hB]
        simp only [List.cons_append, List.nil_append]
        refine Seq.nil ⟨(by repeat (first | exact Part.refl _ | exact Part.nil _ | apply Part.here | apply Part.skip)), ?_⟩
        refine Any.one 9 rfl (by kernel_rfl) ?_
        refine Seq.gy rfl rfl rfl ?_
        refine Seq.callP rfl (fun w hw => barsEqual (xs := B) (ys := B) (RAt.up (RAt.own (enc := Bar.enc) (v := .slice A73 B.length c73) (xs := B) (hs := by omega)) hw) (RAt.up (RAt.own (enc := Bar.enc) (v := .slice A92 B.length c92) (xs := B) (hs := by omega)) hw)) ?_
        refine Seq.nil ⟨(by repeat (first | exact Part.refl _ | exact Part.nil _ | apply Part.here | apply Part.skip)), ?_⟩
        refine Any.gy 10 rfl (by kernel_rfl) (by kernel_rfl) (by kernel_rfl) rfl rfl rfl rfl Ev.not ?_
        refine Any.p 11 rfl (by kernel_rfl) (by kernel_rfl) (by kernel_rfl) rfl Ev.pickF ?_
        refine Any.p 12 rfl (by kernel_rfl) (by kernel_rfl) (by kernel_rfl) rfl Ev.move ?_
        refine Any.split (d := 96) (k := ?_)
        rintro (_|_) h96
        · try simp only [decide_eq_true_eq, decide_eq_false_iff_not] at h96
          refine Any.gy 13 rfl (by kernel_rfl) (by kernel_rfl) (by kernel_rfl) rfl rfl rfl rfl Ev.move ?_
          refine Any.gy 14 rfl (by kernel_rfl) (by kernel_rfl) (by kernel_rfl) rfl rfl rfl rfl Ev.move ?_
          refine Any.gy 15 rfl (by kernel_rfl) (by kernel_rfl) (by kernel_rfl) rfl rfl rfl rfl Ev.ne ?_
          refine Any.p 16 rfl (by kernel_rfl) (by kernel_rfl) (by kernel_rfl) rfl Ev.pickF ?_
          refine Any.p 17 rfl (by kernel_rfl) (by kernel_rfl) (by kernel_rfl) rfl Ev.move ?_
          refine Any.split (d := 101) (k := ?_)
          rintro (_|_) h101
          · try simp only [decide_eq_true_eq, decide_eq_false_iff_not] at h101
            refine Any.gy 18 rfl (by kernel_rfl) (by kernel_rfl) (by kernel_rfl) rfl rfl rfl rfl Ev.move ?_
            refine Any.gy 19 rfl (by kernel_rfl) (by kernel_rfl) (by kernel_rfl) rfl rfl rfl rfl Ev.move ?_
            refine Any.gy 20 rfl (by kernel_rfl) (by kernel_rfl) (by kernel_rfl) rfl rfl rfl rfl (Ev.neB bl.bool) ?_
            refine Any.p 21 rfl (by kernel_rfl) (by kernel_rfl) (by kernel_rfl) rfl Ev.pickF ?_
            refine Any.p 22 rfl (by kernel_rfl) (by kernel_rfl) (by kernel_rfl) rfl Ev.move ?_
            refine Any.split (d := 106) (k := ?_)
            rintro (_|_) h106
            · try simp only [decide_eq_true_eq, decide_eq_false_iff_not] at h106
              refine Any.gy 23 rfl (by kernel_rfl) (by kernel_rfl) (by kernel_rfl) rfl rfl rfl rfl Ev.move ?_
              refine Any.callgy 24 rfl (by kernel_rfl) (by kernel_rfl) (by kernel_rfl) rfl rfl rfl rfl (fun w hw => atTurnover (l := tradesF es) (by repeat (first | exact At.z | apply At.s)) (by repeat (first | exact At.z | apply At.s)) (by omega) hTq hw) ?_
              refine Any.callgy 25 rfl (by kernel_rfl) (by kernel_rfl) (by kernel_rfl) rfl rfl rfl rfl (fun w hw => moneyWords) ?_
              refine Any.gy 26 rfl (by kernel_rfl) (by kernel_rfl) (by kernel_rfl) rfl rfl rfl rfl Ev.move ?_
              refine Any.callgy 27 rfl (by kernel_rfl) (by kernel_rfl) (by kernel_rfl) rfl rfl rfl rfl (fun w hw => atTurnover (l := tradesF es) (by repeat (first | exact At.z | apply At.s)) (by repeat (first | exact At.z | apply At.s)) (by omega) hTq hw) ?_
              refine Any.callgy 28 rfl (by kernel_rfl) (by kernel_rfl) (by kernel_rfl) rfl rfl rfl rfl (fun w hw => moneyWords) ?_
              refine Any.gy 29 rfl (by kernel_rfl) (by kernel_rfl) (by kernel_rfl) rfl rfl rfl rfl (Ev.as (v' := .bool false) (by simp [wordsV, eqL, eqV]) (Ev.neAg (xs := wordsV (turnF (tradesF es))) (ys := wordsV (turnF (tradesF es))) so.a2_uint64 ag.a2_uint64 gd.a2_uint64)) ?_
              refine Any.p 30 rfl (by kernel_rfl) (by kernel_rfl) (by kernel_rfl) rfl Ev.pickF ?_
              refine Any.done (by kernel_rfl) ?_
              first | refine JC.c (ht := fun c114 => ?_) (hf := fun c114 => ?_) | refine JC.cb (ht := fun c114 => ?_) (hf := fun c114 => ?_)
              · -- then_t114
                cases c114
              · -- else_t114
                refine JC.skip ?_
                refine JC.rs ?_
                refine Seq.p rfl (Ev.buildN [_, _, _, _, _, _] pl.api_Bar z.api_Bar) ?_
                refine Seq.alloc (cs := [_, _, _, _, _, _]) (hz := z.api_Bar) (k := ?_); intro b15
                refine Seq.storeN [_, _, _, _, _, _] sz.api_Bar (k := ?_)
                refine Seq.nil ?_
                refine JC.seq ?_
                refine JC.rs ?_
                refine Seq.p rfl Ev.assign ?_
                refine Seq.nil ?_
                refine JC.blk ?_
                have hkp : 0 < each.toNat := by omega
                have hBn := bars_n hkp _ (tradesF es) (Nat.le_refl _)
                have hSB := sum_bars hkp (tradesF es)
                rw [← hB] at hBn hSB
                have hSn : (sumF B).n = (tradesF es).length := by rw [hSB, barF_n]
                refine JC.loop (α := Nat) (I := fun i e1 H1 => Has [6, 16, 116, 117, 118, 119, 120, 121, 122, 123, 124, 125, 126, 127, 128, 129, 130, 131, 132, 133, 134, 135, 136, 137, 138, 139, 140, 141, 142, 143, 144, 145, 146, 147, 148, 149, 150, 151, 152, 153, 154, 155, 156, 157, 158, 159, 160, 161, 162, 163, 164, 165, 166, 167, 168, 169, 170, 171, 172, 173, 174, 175, 176, 177, 178, 179, 180, 181, 182, 183, 184, 185, 186, 187, 188, 189, 190, 191, 192, 193, 194, 195, 196, 197, 198, 199, 200, 201, 202, 203, 204, 205, 206, 207, 208, 209] [(16, .int .i64 (i : Int))] _ e1 ∧ H1 = [.box b15 30 (sumF (B.take i)).enc, _, .box b9 30 (barF (tradesF es)).enc, .own 30 6 (.slice A73 B.length c73) B.length (B.flatMap Bar.enc), _, _, _, _, _, _, _] ∧ i ≤ B.length) (μ := fun i => B.length - i) 0 ⟨Has.mk Off.refl (allLook_cons (by repeat (first | exact Look.here | apply Look.there (hne := rfl) | exact Look.const | apply Look.mix rfl | exact Look.arg0 | apply Look.args | exact Look.func)) allLook_nil), by rw [List.take_zero]; rfl, by omega⟩ ?_
                rintro i _ _ ⟨⟨u, rfl⟩, rfl, hi⟩; dsimp only [setL]
                refine JC.seq ?_
                refine JC.rs ?_
                refine Seq.p rfl Ev.move ?_
                refine Seq.p rfl Ev.move ?_
                refine Seq.p rfl (Ev.lenSl sl.sl_api_Bar (hr := (RAt.own (enc := Bar.enc) (v := .slice A73 B.length c73) (xs := B) (hs := by omega)))) ?_
                refine Seq.p rfl Ev.lt ?_
                refine Seq.nil ?_
                first | refine JC.c (ht := fun c119 => ?_) (hf := fun c119 => ?_) | refine JC.cb (ht := fun c119 => ?_) (hf := fun c119 => ?_)
                · -- then_t119
                  have hi2 : i < B.length := by omega
                  have hn := hBn i hi2
                  have hST : i ≠ 0 → sumF (B.take (i + 1)) = mergeF (sumF (B.take i)) B[i]! := fun h => sumF_take hi2 (by omega)
                  have hSl := sumF_n_le (l := B) (i := i + 1) (by omega) (by omega)
                  have hS1 : i = 0 → sumF (B.take (i + 1)) = B[0]! := fun h => by rw [h]; exact sumF_one (by omega)
                  obtain ⟨S, hS⟩ : ∃ S, S = sumF (B.take i) := ⟨_, rfl⟩
                  rw [← hS] at hST ⊢
                  refine JC.skip ?_
                  refine JC.seq ?_
                  refine JC.blk ?_
                  refine JC.seq ?_
                  refine JC.rs ?_
                  refine Seq.p rfl Ev.move ?_
                  refine Seq.p rfl Ev.move ?_
                  refine Seq.p rfl (Ev.iaN sl.sl_api_Bar (hr := (RAt.own (enc := Bar.enc) (v := .slice A73 B.length c73) (xs := B) (hs := by omega)))) ?_
                  refine Seq.p rfl (Ev.fa fd.api_Bar_5) ?_
                  refine Seq.p rfl (Ev.ldE sc.int (hr := (RAt.own (enc := Bar.enc) (v := .slice A73 B.length c73) (xs := B) (hs := by omega)))) ?_
                  refine Seq.p rfl Ev.lt ?_
                  refine Seq.p rfl Ev.move ?_
                  refine Seq.orG (D := [128, 129, 130, 131, 132, 133, 134, 135, 136]) (d := 128) (t := 136) (k := 8) (hn := fun h128 => ?_) (hx := ?_)
                  · repeat (first | refine Seq.gn rfl rfl rfl rfl ?_ | refine Seq.gu rfl rfl rfl ?_)
                    refine Seq.p rfl Ev.pickT ?_
                    exact Seq.nil ⟨rfl, (by repeat (first | with_reducible exact Off.refl | refine Off.upd ?_ rfl | exact Off.mix | refine Off.mix2 ?_ rfl)), Look.here⟩
                  apply Exists.intro
                  refine ⟨fun h128 => ?_, fun u136 => ?_⟩
                  · try simp only [decide_eq_true_eq, decide_eq_false_iff_not, Bool.and_eq_true, Bool.or_eq_true, Bool.not_eq_true', Bool.not_eq_false', Bool.or_eq_false_iff, Bool.and_eq_false_imp] at h128
                    refine Seq.gy rfl rfl rfl ?_
                    refine Seq.p rfl Ev.move ?_
                    refine Seq.gy rfl rfl rfl ?_
                    refine Seq.p rfl Ev.move ?_
                    refine Seq.gy rfl rfl rfl ?_
                    refine Seq.p rfl (Ev.iaN sl.sl_api_Bar (hr := (RAt.own (enc := Bar.enc) (v := .slice A73 B.length c73) (xs := B) (hs := by omega)))) ?_
                    refine Seq.gy rfl rfl rfl ?_
                    refine Seq.p rfl (Ev.fa fd.api_Bar_5) ?_
                    refine Seq.gy rfl rfl rfl ?_
                    refine Seq.p rfl (Ev.ldE sc.int (hr := (RAt.own (enc := Bar.enc) (v := .slice A73 B.length c73) (xs := B) (hs := by omega)))) ?_
                    refine Seq.gy rfl rfl rfl ?_
                    refine Seq.p rfl Ev.move ?_
                    refine Seq.gy rfl rfl rfl ?_
                    refine Seq.p rfl Ev.gt ?_
                    refine Seq.p rfl Ev.pickF ?_
                    exact Seq.nil ⟨rfl, (by repeat (first | with_reducible exact Off.refl | refine Off.upd ?_ rfl | exact Off.mix | refine Off.mix2 ?_ rfl)), Look.here⟩
                  refine Seq.p rfl Ev.move ?_
                  refine Seq.orG (D := [137, 138, 139, 140, 141, 142, 143, 144, 145, 146, 147, 148, 149, 150, 151, 152]) (d := 137) (t := 152) (k := 15) (hn := fun h137 => ?_) (hx := ?_)
                  · repeat (first | refine Seq.gn rfl rfl rfl rfl ?_ | refine Seq.gu rfl rfl rfl ?_)
                    refine Seq.p rfl Ev.pickT ?_
                    exact Seq.nil ⟨rfl, (by repeat (first | with_reducible exact Off.refl | refine Off.upd ?_ rfl | exact Off.mix | refine Off.mix2 ?_ rfl)), Look.here⟩
                  apply Exists.intro
                  refine ⟨fun h137 => ?_, fun u152 => ?_⟩
                  · try simp only [decide_eq_true_eq, decide_eq_false_iff_not, Bool.and_eq_true, Bool.or_eq_true, Bool.not_eq_true', Bool.not_eq_false', Bool.or_eq_false_iff, Bool.and_eq_false_imp] at h137
                    refine Seq.gy rfl rfl rfl ?_
                    refine Seq.p rfl Ev.move ?_
                    refine Seq.gy rfl rfl rfl ?_
                    refine Seq.p rfl (by first | exact Ev.inc | exact Ev.add) ?_
                    refine Seq.gy rfl rfl rfl ?_
                    refine Seq.p rfl Ev.move ?_
                    refine Seq.gy rfl rfl rfl ?_
                    refine Seq.p rfl (Ev.lenSl sl.sl_api_Bar (hr := (RAt.own (enc := Bar.enc) (v := .slice A73 B.length c73) (xs := B) (hs := by omega)))) ?_
                    refine Seq.gy rfl rfl rfl ?_
                    refine Seq.p rfl Ev.lt ?_
                    refine Seq.gy rfl rfl rfl ?_
                    refine Seq.p rfl Ev.move ?_
                    refine Seq.andG (D := [143, 144, 145, 146, 147, 148, 149, 150, 151]) (d := 143) (t := 151) (k := 8) (hn := fun h143 => ?_) (hx := ?_)
                    · repeat (first | refine Seq.gn rfl rfl rfl rfl ?_ | refine Seq.gu rfl rfl rfl ?_)
                      refine Seq.gy rfl rfl rfl ?_
                      refine Seq.p rfl Ev.pickF ?_
                      exact Seq.nil ⟨rfl, (by repeat (first | with_reducible exact Off.refl | refine Off.upd ?_ rfl | exact Off.mix | refine Off.mix2 ?_ rfl)), Look.here⟩
                    apply Exists.intro
                    refine ⟨fun h143 => ?_, fun u151 => ?_⟩
                    · try simp only [decide_eq_true_eq, decide_eq_false_iff_not, Bool.and_eq_true, Bool.or_eq_true, Bool.not_eq_true', Bool.not_eq_false', Bool.or_eq_false_iff, Bool.and_eq_false_imp] at h143
                      refine Seq.gy rfl rfl rfl ?_
                      refine Seq.p rfl Ev.move ?_
                      refine Seq.gy rfl rfl rfl ?_
                      refine Seq.p rfl Ev.move ?_
                      refine Seq.gy rfl rfl rfl ?_
                      refine Seq.p rfl (Ev.iaN sl.sl_api_Bar (hr := (RAt.own (enc := Bar.enc) (v := .slice A73 B.length c73) (xs := B) (hs := by omega)))) ?_
                      refine Seq.gy rfl rfl rfl ?_
                      refine Seq.p rfl (Ev.fa fd.api_Bar_5) ?_
                      refine Seq.gy rfl rfl rfl ?_
                      refine Seq.p rfl (Ev.ldE sc.int (hr := (RAt.own (enc := Bar.enc) (v := .slice A73 B.length c73) (xs := B) (hs := by omega)))) ?_
                      refine Seq.gy rfl rfl rfl ?_
                      refine Seq.p rfl Ev.move ?_
                      refine Seq.gy rfl rfl rfl ?_
                      refine Seq.p rfl Ev.ne ?_
                      refine Seq.gy rfl rfl rfl ?_
                      refine Seq.p rfl Ev.pickT ?_
                      exact Seq.nil ⟨rfl, (by repeat (first | with_reducible exact Off.refl | refine Off.upd ?_ rfl | exact Off.mix | refine Off.mix2 ?_ rfl)), Look.here⟩
                    refine Seq.p rfl Ev.pickF ?_
                    exact Seq.nil ⟨rfl, (by repeat (first | with_reducible exact Off.refl | refine Off.upd ?_ rfl | exact Off.mix | refine Off.mix2 ?_ rfl)), Look.here⟩
                  refine Seq.nil ?_
                  first | refine JC.c (ht := fun c152 => ?_) (hf := fun c152 => ?_) | refine JC.cb (ht := fun c152 => ?_) (hf := fun c152 => ?_)
                  · -- then_t152
                    simp only [Bool.or_eq_true, Bool.and_eq_true, decide_eq_true_eq] at c152; omega
                  · -- else_t152
                    refine JC.skip ?_
                    refine JC.seq ?_
                    refine JC.rs ?_
                    refine Seq.p rfl Ev.move ?_
                    refine Seq.p rfl Ev.eq ?_
                    refine Seq.nil ?_
                    first | refine JC.c (ht := fun c154 => ?_) (hf := fun c154 => ?_) | refine JC.cb (ht := fun c154 => ?_) (hf := fun c154 => ?_)
                    · -- then_t154
                      refine JC.rs ?_
                      refine Seq.p rfl Ev.move ?_
                      refine Seq.p rfl (Ev.iaN sl.sl_api_Bar (i := 0) (hr := (RAt.own (enc := Bar.enc) (v := .slice A73 B.length c73) (xs := B) (hs := by omega))) (hi := by omega)) ?_
                      refine Seq.p rfl (Ev.ldEA ag.api_Bar (i := 0) (hr := (RAt.own (enc := Bar.enc) (v := .slice A73 B.length c73) (xs := B) (hs := by omega))) (hi := by omega)) ?_
                      refine Seq.storeN [_, _, _, _, _, _] sz.api_Bar (k := ?_)
                      refine Seq.nil ?_
                      refine JC.exit ?_ -- 1
                      refine JC.reg ?_
                      refine Seq.p rfl Ev.move ?_
                      refine Seq.p rfl (by first | exact Ev.inc | exact Ev.add) ?_
                      refine Seq.p rfl Ev.assign ?_
                      refine Seq.nil ?_
                      refine ⟨i + 1, _, Part.refl _, ⟨Has.mk (by repeat (first | refine Off.upd ?_ rfl | exact Off.mix | refine Off.mix2 ?_ rfl | exact Off.refl)) (allLook_cons (by repeat (first | exact Look.here | apply Look.there (hne := rfl) | exact Look.const | apply Look.mix rfl | exact Look.arg0 | apply Look.args | exact Look.func)) allLook_nil), ?_, by omega⟩, by omega⟩
                      first | (rw [hS1 (by omega)]; rfl) | (rw [hST2, show (mergeF S B[i]!).enc = [.int .i64 S.op, .int .i64 (if S.hi < B[i]!.hi then B[i]!.hi else S.hi), .int .i64 (if B[i]!.lo < S.lo then B[i]!.lo else S.lo), .int .i64 B[i]!.cl, .int .u64 (((S.vol + B[i]!.vol) % 18446744073709551616 : Nat) : Int), .int .i64 ((S.n + B[i]!.n : Nat) : Int)] from rfl, hA1, hA2, Int.natCast_add]; rfl)
                    · -- else_t154
                      have hST2 := hST (by omega)
                      rw [hST2, hSn] at hSl
                      have hSl2 : S.n + B[i]!.n ≤ (tradesF es).length := hSl
                      refine JC.skip ?_
                      refine JC.seq ?_
                      refine JC.qs mixed (by kernel_rfl) ?_
                      refine Qui.p rfl Ev.move ?_
                      refine Qui.p rfl Ev.move ?_
                      refine Qui.p rfl (Ev.iaN sl.sl_api_Bar (hr := (RAt.own (enc := Bar.enc) (v := .slice A73 B.length c73) (xs := B) (hs := by omega)))) ?_
                      refine Qui.p rfl (Ev.fa fd.api_Bar_1) ?_
                      refine Qui.p rfl (Ev.ldE sc.int (hr := (RAt.own (enc := Bar.enc) (v := .slice A73 B.length c73) (xs := B) (hs := by omega)))) ?_
                      refine Qui.p rfl (Ev.faB fd.api_Bar_1) ?_
                      refine Qui.p rfl (Ev.ldB sc.int) ?_
                      refine Qui.p rfl Ev.gt ?_
                      refine Qui.nil ?_
                      first | refine JC.c (ht := fun c165 => ?_) (hf := fun c165 => ?_) | refine JC.cb (ht := fun c165 => ?_) (hf := fun c165 => ?_)
                      · -- then_t165
                        have hA1 : (if S.hi < B[i]!.hi then B[i]!.hi else S.hi) = B[i]!.hi := if_pos c165
                        refine JC.reg ?_
                        refine Seq.p rfl Ev.move ?_
                        refine Seq.p rfl Ev.move ?_
                        refine Seq.p rfl (Ev.iaN sl.sl_api_Bar (hr := (RAt.own (enc := Bar.enc) (v := .slice A73 B.length c73) (xs := B) (hs := by omega)))) ?_
                        refine Seq.p rfl (Ev.fa fd.api_Bar_1) ?_
                        refine Seq.p rfl (Ev.ldE sc.int (hr := (RAt.own (enc := Bar.enc) (v := .slice A73 B.length c73) (xs := B) (hs := by omega)))) ?_
                        refine Seq.p rfl (Ev.faB fd.api_Bar_1) ?_
                        refine Seq.storeN [_, _, _, _, _, _] sz.int (k := ?_)
                        refine Seq.nil ?_
                        refine JC.seq ?_
                        refine JC.qs mixed (by kernel_rfl) ?_
                        refine Qui.p rfl Ev.move ?_
                        refine Qui.p rfl Ev.move ?_
                        refine Qui.p rfl (Ev.iaN sl.sl_api_Bar (hr := (RAt.own (enc := Bar.enc) (v := .slice A73 B.length c73) (xs := B) (hs := by omega)))) ?_
                        refine Qui.p rfl (Ev.fa fd.api_Bar_2) ?_
                        refine Qui.p rfl (Ev.ldE sc.int (hr := (RAt.own (enc := Bar.enc) (v := .slice A73 B.length c73) (xs := B) (hs := by omega)))) ?_
                        refine Qui.p rfl (Ev.faB fd.api_Bar_2) ?_
                        refine Qui.p rfl (Ev.ldB sc.int) ?_
                        refine Qui.p rfl Ev.lt ?_
                        refine Qui.nil ?_
                        first | refine JC.c (ht := fun c179 => ?_) (hf := fun c179 => ?_) | refine JC.cb (ht := fun c179 => ?_) (hf := fun c179 => ?_)
                        · -- then_t179
                          have hA2 : (if B[i]!.lo < S.lo then B[i]!.lo else S.lo) = B[i]!.lo := if_pos c179
                          refine JC.reg ?_
                          refine Seq.p rfl Ev.move ?_
                          refine Seq.p rfl Ev.move ?_
                          refine Seq.p rfl (Ev.iaN sl.sl_api_Bar (hr := (RAt.own (enc := Bar.enc) (v := .slice A73 B.length c73) (xs := B) (hs := by omega)))) ?_
                          refine Seq.p rfl (Ev.fa fd.api_Bar_2) ?_
                          refine Seq.p rfl (Ev.ldE sc.int (hr := (RAt.own (enc := Bar.enc) (v := .slice A73 B.length c73) (xs := B) (hs := by omega)))) ?_
                          refine Seq.p rfl (Ev.faB fd.api_Bar_2) ?_
                          refine Seq.storeN [_, _, _, _, _, _] sz.int (k := ?_)
                          refine Seq.nil ?_
                          refine JC.rs ?_
                          refine Seq.p rfl Ev.move ?_
                          refine Seq.p rfl Ev.move ?_
                          refine Seq.p rfl (Ev.iaN sl.sl_api_Bar (hr := (RAt.own (enc := Bar.enc) (v := .slice A73 B.length c73) (xs := B) (hs := by omega)))) ?_
                          refine Seq.p rfl (Ev.fa fd.api_Bar_3) ?_
                          refine Seq.p rfl (Ev.ldE sc.int (hr := (RAt.own (enc := Bar.enc) (v := .slice A73 B.length c73) (xs := B) (hs := by omega)))) ?_
                          refine Seq.p rfl (Ev.faB fd.api_Bar_3) ?_
                          refine Seq.storeN [_, _, _, _, _, _] sz.int (k := ?_)
                          refine Seq.nil ?_
                          refine JC.asE 0 mixed ?_
                          refine Any.p 0 rfl (by kernel_rfl) (by kernel_rfl) (by kernel_rfl) rfl (Ev.faB fd.api_Bar_4) ?_
                          refine Any.p 2 rfl (by kernel_rfl) (by kernel_rfl) (by kernel_rfl) rfl Ev.move ?_
                          refine Any.p 3 rfl (by kernel_rfl) (by kernel_rfl) (by kernel_rfl) rfl Ev.move ?_
                          refine Any.p 4 rfl (by kernel_rfl) (by kernel_rfl) (by kernel_rfl) rfl (Ev.iaN sl.sl_api_Bar (hr := (RAt.own (enc := Bar.enc) (v := .slice A73 B.length c73) (xs := B) (hs := by omega)))) ?_
                          refine Any.p 5 rfl (by kernel_rfl) (by kernel_rfl) (by kernel_rfl) rfl (Ev.fa fd.api_Bar_4) ?_
                          refine Any.p 6 rfl (by kernel_rfl) (by kernel_rfl) (by kernel_rfl) rfl (Ev.ldE sc.uint64 (hr := (RAt.own (enc := Bar.enc) (v := .slice A73 B.length c73) (xs := B) (hs := by omega)))) ?_
                          refine Any.one 1 rfl (by kernel_rfl) ?_
                          refine Seq.p rfl (Ev.ldB sc.uint64) ?_
                          refine Seq.nil ⟨(by repeat (first | exact Part.refl _ | exact Part.nil _ | apply Part.here | apply Part.skip)), ?_⟩
                          refine Any.p 7 rfl (by kernel_rfl) (by kernel_rfl) (by kernel_rfl) rfl Ev.addNM ?_
                          refine Any.p 8 rfl (by kernel_rfl) (by kernel_rfl) (by kernel_rfl) rfl (Ev.faB fd.api_Bar_4) ?_
                          refine Any.one 9 rfl (by kernel_rfl) ?_
                          refine Seq.storeN [_, _, _, _, _, _] sz.uint64 (k := ?_)
                          refine Seq.nil ⟨(by repeat (first | exact Part.refl _ | exact Part.nil _ | apply Part.here | apply Part.skip)), ?_⟩
                          refine Any.done (by kernel_rfl) ?_
                          refine JC.anyE 0 mixed ?_
                          refine Any.p 0 rfl (by kernel_rfl) (by kernel_rfl) (by kernel_rfl) rfl (Ev.faB fd.api_Bar_5) ?_
                          refine Any.p 2 rfl (by kernel_rfl) (by kernel_rfl) (by kernel_rfl) rfl Ev.move ?_
                          refine Any.p 3 rfl (by kernel_rfl) (by kernel_rfl) (by kernel_rfl) rfl Ev.move ?_
                          refine Any.p 4 rfl (by kernel_rfl) (by kernel_rfl) (by kernel_rfl) rfl (Ev.iaN sl.sl_api_Bar (hr := (RAt.own (enc := Bar.enc) (v := .slice A73 B.length c73) (xs := B) (hs := by omega)))) ?_
                          refine Any.p 5 rfl (by kernel_rfl) (by kernel_rfl) (by kernel_rfl) rfl (Ev.fa fd.api_Bar_5) ?_
                          refine Any.p 6 rfl (by kernel_rfl) (by kernel_rfl) (by kernel_rfl) rfl (Ev.ldE sc.int (hr := (RAt.own (enc := Bar.enc) (v := .slice A73 B.length c73) (xs := B) (hs := by omega)))) ?_
                          refine Any.one 1 rfl (by kernel_rfl) ?_
                          refine Seq.p rfl (Ev.ldB sc.int) ?_
                          refine Seq.nil ⟨(by repeat (first | exact Part.refl _ | exact Part.nil _ | apply Part.here | apply Part.skip)), ?_⟩
                          refine Any.p 7 rfl (by kernel_rfl) (by kernel_rfl) (by kernel_rfl) rfl Ev.add ?_
                          refine Any.p 8 rfl (by kernel_rfl) (by kernel_rfl) (by kernel_rfl) rfl (Ev.faB fd.api_Bar_5) ?_
                          refine Any.one 9 rfl (by kernel_rfl) ?_
                          refine Seq.storeN [_, _, _, _, _, _] sz.int (k := ?_)
                          refine Seq.nil ⟨(by repeat (first | exact Part.refl _ | exact Part.nil _ | apply Part.here | apply Part.skip)), ?_⟩
                          refine Any.done (by kernel_rfl) ?_
                          refine JC.reg ?_
                          refine Seq.p rfl Ev.move ?_
                          refine Seq.p rfl (by first | exact Ev.inc | exact Ev.add) ?_
                          refine Seq.p rfl Ev.assign ?_
                          refine Seq.nil ?_
                          refine ⟨i + 1, _, Part.refl _, ⟨Has.mk (by repeat (first | refine Off.upd ?_ rfl | exact Off.mix | refine Off.mix2 ?_ rfl | exact Off.refl)) (allLook_cons (by repeat (first | exact Look.here | apply Look.there (hne := rfl) | exact Look.const | apply Look.mix rfl | exact Look.arg0 | apply Look.args | exact Look.func)) allLook_nil), ?_, by omega⟩, by omega⟩
                          first | (rw [hS1 (by omega)]; rfl) | (rw [hST2, show (mergeF S B[i]!).enc = [.int .i64 S.op, .int .i64 (if S.hi < B[i]!.hi then B[i]!.hi else S.hi), .int .i64 (if B[i]!.lo < S.lo then B[i]!.lo else S.lo), .int .i64 B[i]!.cl, .int .u64 (((S.vol + B[i]!.vol) % 18446744073709551616 : Nat) : Int), .int .i64 ((S.n + B[i]!.n : Nat) : Int)] from rfl, hA1, hA2, Int.natCast_add]; rfl)
                        · -- else_t179
                          have hA2 : (if B[i]!.lo < S.lo then B[i]!.lo else S.lo) = S.lo := if_neg c179
                          refine JC.skip ?_
                          refine JC.rs ?_
                          refine Seq.p rfl Ev.move ?_
                          refine Seq.p rfl Ev.move ?_
                          refine Seq.p rfl (Ev.iaN sl.sl_api_Bar (hr := (RAt.own (enc := Bar.enc) (v := .slice A73 B.length c73) (xs := B) (hs := by omega)))) ?_
                          refine Seq.p rfl (Ev.fa fd.api_Bar_3) ?_
                          refine Seq.p rfl (Ev.ldE sc.int (hr := (RAt.own (enc := Bar.enc) (v := .slice A73 B.length c73) (xs := B) (hs := by omega)))) ?_
                          refine Seq.p rfl (Ev.faB fd.api_Bar_3) ?_
                          refine Seq.storeN [_, _, _, _, _, _] sz.int (k := ?_)
                          refine Seq.nil ?_
                          refine JC.asE 0 mixed ?_
                          refine Any.p 0 rfl (by kernel_rfl) (by kernel_rfl) (by kernel_rfl) rfl (Ev.faB fd.api_Bar_4) ?_
                          refine Any.p 2 rfl (by kernel_rfl) (by kernel_rfl) (by kernel_rfl) rfl Ev.move ?_
                          refine Any.p 3 rfl (by kernel_rfl) (by kernel_rfl) (by kernel_rfl) rfl Ev.move ?_
                          refine Any.p 4 rfl (by kernel_rfl) (by kernel_rfl) (by kernel_rfl) rfl (Ev.iaN sl.sl_api_Bar (hr := (RAt.own (enc := Bar.enc) (v := .slice A73 B.length c73) (xs := B) (hs := by omega)))) ?_
                          refine Any.p 5 rfl (by kernel_rfl) (by kernel_rfl) (by kernel_rfl) rfl (Ev.fa fd.api_Bar_4) ?_
                          refine Any.p 6 rfl (by kernel_rfl) (by kernel_rfl) (by kernel_rfl) rfl (Ev.ldE sc.uint64 (hr := (RAt.own (enc := Bar.enc) (v := .slice A73 B.length c73) (xs := B) (hs := by omega)))) ?_
                          refine Any.one 1 rfl (by kernel_rfl) ?_
                          refine Seq.p rfl (Ev.ldB sc.uint64) ?_
                          refine Seq.nil ⟨(by repeat (first | exact Part.refl _ | exact Part.nil _ | apply Part.here | apply Part.skip)), ?_⟩
                          refine Any.p 7 rfl (by kernel_rfl) (by kernel_rfl) (by kernel_rfl) rfl Ev.addNM ?_
                          refine Any.p 8 rfl (by kernel_rfl) (by kernel_rfl) (by kernel_rfl) rfl (Ev.faB fd.api_Bar_4) ?_
                          refine Any.one 9 rfl (by kernel_rfl) ?_
                          refine Seq.storeN [_, _, _, _, _, _] sz.uint64 (k := ?_)
                          refine Seq.nil ⟨(by repeat (first | exact Part.refl _ | exact Part.nil _ | apply Part.here | apply Part.skip)), ?_⟩
                          refine Any.done (by kernel_rfl) ?_
                          refine JC.anyE 0 mixed ?_
                          refine Any.p 0 rfl (by kernel_rfl) (by kernel_rfl) (by kernel_rfl) rfl (Ev.faB fd.api_Bar_5) ?_
                          refine Any.p 2 rfl (by kernel_rfl) (by kernel_rfl) (by kernel_rfl) rfl Ev.move ?_
                          refine Any.p 3 rfl (by kernel_rfl) (by kernel_rfl) (by kernel_rfl) rfl Ev.move ?_
                          refine Any.p 4 rfl (by kernel_rfl) (by kernel_rfl) (by kernel_rfl) rfl (Ev.iaN sl.sl_api_Bar (hr := (RAt.own (enc := Bar.enc) (v := .slice A73 B.length c73) (xs := B) (hs := by omega)))) ?_
                          refine Any.p 5 rfl (by kernel_rfl) (by kernel_rfl) (by kernel_rfl) rfl (Ev.fa fd.api_Bar_5) ?_
                          refine Any.p 6 rfl (by kernel_rfl) (by kernel_rfl) (by kernel_rfl) rfl (Ev.ldE sc.int (hr := (RAt.own (enc := Bar.enc) (v := .slice A73 B.length c73) (xs := B) (hs := by omega)))) ?_
                          refine Any.one 1 rfl (by kernel_rfl) ?_
                          refine Seq.p rfl (Ev.ldB sc.int) ?_
                          refine Seq.nil ⟨(by repeat (first | exact Part.refl _ | exact Part.nil _ | apply Part.here | apply Part.skip)), ?_⟩
                          refine Any.p 7 rfl (by kernel_rfl) (by kernel_rfl) (by kernel_rfl) rfl Ev.add ?_
                          refine Any.p 8 rfl (by kernel_rfl) (by kernel_rfl) (by kernel_rfl) rfl (Ev.faB fd.api_Bar_5) ?_
                          refine Any.one 9 rfl (by kernel_rfl) ?_
                          refine Seq.storeN [_, _, _, _, _, _] sz.int (k := ?_)
                          refine Seq.nil ⟨(by repeat (first | exact Part.refl _ | exact Part.nil _ | apply Part.here | apply Part.skip)), ?_⟩
                          refine Any.done (by kernel_rfl) ?_
                          refine JC.reg ?_
                          refine Seq.p rfl Ev.move ?_
                          refine Seq.p rfl (by first | exact Ev.inc | exact Ev.add) ?_
                          refine Seq.p rfl Ev.assign ?_
                          refine Seq.nil ?_
                          refine ⟨i + 1, _, Part.refl _, ⟨Has.mk (by repeat (first | refine Off.upd ?_ rfl | exact Off.mix | refine Off.mix2 ?_ rfl | exact Off.refl)) (allLook_cons (by repeat (first | exact Look.here | apply Look.there (hne := rfl) | exact Look.const | apply Look.mix rfl | exact Look.arg0 | apply Look.args | exact Look.func)) allLook_nil), ?_, by omega⟩, by omega⟩
                          first | (rw [hS1 (by omega)]; rfl) | (rw [hST2, show (mergeF S B[i]!).enc = [.int .i64 S.op, .int .i64 (if S.hi < B[i]!.hi then B[i]!.hi else S.hi), .int .i64 (if B[i]!.lo < S.lo then B[i]!.lo else S.lo), .int .i64 B[i]!.cl, .int .u64 (((S.vol + B[i]!.vol) % 18446744073709551616 : Nat) : Int), .int .i64 ((S.n + B[i]!.n : Nat) : Int)] from rfl, hA1, hA2, Int.natCast_add]; rfl)
                      · -- else_t165
                        have hA1 : (if S.hi < B[i]!.hi then B[i]!.hi else S.hi) = S.hi := if_neg c165
                        refine JC.skip ?_
                        refine JC.seq ?_
                        refine JC.qs mixed (by kernel_rfl) ?_
                        refine Qui.p rfl Ev.move ?_
                        refine Qui.p rfl Ev.move ?_
                        refine Qui.p rfl (Ev.iaN sl.sl_api_Bar (hr := (RAt.own (enc := Bar.enc) (v := .slice A73 B.length c73) (xs := B) (hs := by omega)))) ?_
                        refine Qui.p rfl (Ev.fa fd.api_Bar_2) ?_
                        refine Qui.p rfl (Ev.ldE sc.int (hr := (RAt.own (enc := Bar.enc) (v := .slice A73 B.length c73) (xs := B) (hs := by omega)))) ?_
                        refine Qui.p rfl (Ev.faB fd.api_Bar_2) ?_
                        refine Qui.p rfl (Ev.ldB sc.int) ?_
                        refine Qui.p rfl Ev.lt ?_
                        refine Qui.nil ?_
                        first | refine JC.c (ht := fun c179 => ?_) (hf := fun c179 => ?_) | refine JC.cb (ht := fun c179 => ?_) (hf := fun c179 => ?_)
                        · -- then_t179
                          have hA2 : (if B[i]!.lo < S.lo then B[i]!.lo else S.lo) = B[i]!.lo := if_pos c179
                          refine JC.reg ?_
                          refine Seq.p rfl Ev.move ?_
                          refine Seq.p rfl Ev.move ?_
                          refine Seq.p rfl (Ev.iaN sl.sl_api_Bar (hr := (RAt.own (enc := Bar.enc) (v := .slice A73 B.length c73) (xs := B) (hs := by omega)))) ?_
                          refine Seq.p rfl (Ev.fa fd.api_Bar_2) ?_
                          refine Seq.p rfl (Ev.ldE sc.int (hr := (RAt.own (enc := Bar.enc) (v := .slice A73 B.length c73) (xs := B) (hs := by omega)))) ?_
                          refine Seq.p rfl (Ev.faB fd.api_Bar_2) ?_
                          refine Seq.storeN [_, _, _, _, _, _] sz.int (k := ?_)
                          refine Seq.nil ?_
                          refine JC.rs ?_
                          refine Seq.p rfl Ev.move ?_
                          refine Seq.p rfl Ev.move ?_
                          refine Seq.p rfl (Ev.iaN sl.sl_api_Bar (hr := (RAt.own (enc := Bar.enc) (v := .slice A73 B.length c73) (xs := B) (hs := by omega)))) ?_
                          refine Seq.p rfl (Ev.fa fd.api_Bar_3) ?_
                          refine Seq.p rfl (Ev.ldE sc.int (hr := (RAt.own (enc := Bar.enc) (v := .slice A73 B.length c73) (xs := B) (hs := by omega)))) ?_
                          refine Seq.p rfl (Ev.faB fd.api_Bar_3) ?_
                          refine Seq.storeN [_, _, _, _, _, _] sz.int (k := ?_)
                          refine Seq.nil ?_
                          refine JC.asE 0 mixed ?_
                          refine Any.p 0 rfl (by kernel_rfl) (by kernel_rfl) (by kernel_rfl) rfl (Ev.faB fd.api_Bar_4) ?_
                          refine Any.p 2 rfl (by kernel_rfl) (by kernel_rfl) (by kernel_rfl) rfl Ev.move ?_
                          refine Any.p 3 rfl (by kernel_rfl) (by kernel_rfl) (by kernel_rfl) rfl Ev.move ?_
                          refine Any.p 4 rfl (by kernel_rfl) (by kernel_rfl) (by kernel_rfl) rfl (Ev.iaN sl.sl_api_Bar (hr := (RAt.own (enc := Bar.enc) (v := .slice A73 B.length c73) (xs := B) (hs := by omega)))) ?_
                          refine Any.p 5 rfl (by kernel_rfl) (by kernel_rfl) (by kernel_rfl) rfl (Ev.fa fd.api_Bar_4) ?_
                          refine Any.p 6 rfl (by kernel_rfl) (by kernel_rfl) (by kernel_rfl) rfl (Ev.ldE sc.uint64 (hr := (RAt.own (enc := Bar.enc) (v := .slice A73 B.length c73) (xs := B) (hs := by omega)))) ?_
                          refine Any.one 1 rfl (by kernel_rfl) ?_
                          refine Seq.p rfl (Ev.ldB sc.uint64) ?_
                          refine Seq.nil ⟨(by repeat (first | exact Part.refl _ | exact Part.nil _ | apply Part.here | apply Part.skip)), ?_⟩
                          refine Any.p 7 rfl (by kernel_rfl) (by kernel_rfl) (by kernel_rfl) rfl Ev.addNM ?_
                          refine Any.p 8 rfl (by kernel_rfl) (by kernel_rfl) (by kernel_rfl) rfl (Ev.faB fd.api_Bar_4) ?_
                          refine Any.one 9 rfl (by kernel_rfl) ?_
                          refine Seq.storeN [_, _, _, _, _, _] sz.uint64 (k := ?_)
                          refine Seq.nil ⟨(by repeat (first | exact Part.refl _ | exact Part.nil _ | apply Part.here | apply Part.skip)), ?_⟩
                          refine Any.done (by kernel_rfl) ?_
                          refine JC.anyE 0 mixed ?_
                          refine Any.p 0 rfl (by kernel_rfl) (by kernel_rfl) (by kernel_rfl) rfl (Ev.faB fd.api_Bar_5) ?_
                          refine Any.p 2 rfl (by kernel_rfl) (by kernel_rfl) (by kernel_rfl) rfl Ev.move ?_
                          refine Any.p 3 rfl (by kernel_rfl) (by kernel_rfl) (by kernel_rfl) rfl Ev.move ?_
                          refine Any.p 4 rfl (by kernel_rfl) (by kernel_rfl) (by kernel_rfl) rfl (Ev.iaN sl.sl_api_Bar (hr := (RAt.own (enc := Bar.enc) (v := .slice A73 B.length c73) (xs := B) (hs := by omega)))) ?_
                          refine Any.p 5 rfl (by kernel_rfl) (by kernel_rfl) (by kernel_rfl) rfl (Ev.fa fd.api_Bar_5) ?_
                          refine Any.p 6 rfl (by kernel_rfl) (by kernel_rfl) (by kernel_rfl) rfl (Ev.ldE sc.int (hr := (RAt.own (enc := Bar.enc) (v := .slice A73 B.length c73) (xs := B) (hs := by omega)))) ?_
                          refine Any.one 1 rfl (by kernel_rfl) ?_
                          refine Seq.p rfl (Ev.ldB sc.int) ?_
                          refine Seq.nil ⟨(by repeat (first | exact Part.refl _ | exact Part.nil _ | apply Part.here | apply Part.skip)), ?_⟩
                          refine Any.p 7 rfl (by kernel_rfl) (by kernel_rfl) (by kernel_rfl) rfl Ev.add ?_
                          refine Any.p 8 rfl (by kernel_rfl) (by kernel_rfl) (by kernel_rfl) rfl (Ev.faB fd.api_Bar_5) ?_
                          refine Any.one 9 rfl (by kernel_rfl) ?_
                          refine Seq.storeN [_, _, _, _, _, _] sz.int (k := ?_)
                          refine Seq.nil ⟨(by repeat (first | exact Part.refl _ | exact Part.nil _ | apply Part.here | apply Part.skip)), ?_⟩
                          refine Any.done (by kernel_rfl) ?_
                          refine JC.reg ?_
                          refine Seq.p rfl Ev.move ?_
                          refine Seq.p rfl (by first | exact Ev.inc | exact Ev.add) ?_
                          refine Seq.p rfl Ev.assign ?_
                          refine Seq.nil ?_
                          refine ⟨i + 1, _, Part.refl _, ⟨Has.mk (by repeat (first | refine Off.upd ?_ rfl | exact Off.mix | refine Off.mix2 ?_ rfl | exact Off.refl)) (allLook_cons (by repeat (first | exact Look.here | apply Look.there (hne := rfl) | exact Look.const | apply Look.mix rfl | exact Look.arg0 | apply Look.args | exact Look.func)) allLook_nil), ?_, by omega⟩, by omega⟩
                          first | (rw [hS1 (by omega)]; rfl) | (rw [hST2, show (mergeF S B[i]!).enc = [.int .i64 S.op, .int .i64 (if S.hi < B[i]!.hi then B[i]!.hi else S.hi), .int .i64 (if B[i]!.lo < S.lo then B[i]!.lo else S.lo), .int .i64 B[i]!.cl, .int .u64 (((S.vol + B[i]!.vol) % 18446744073709551616 : Nat) : Int), .int .i64 ((S.n + B[i]!.n : Nat) : Int)] from rfl, hA1, hA2, Int.natCast_add]; rfl)
                        · -- else_t179
                          have hA2 : (if B[i]!.lo < S.lo then B[i]!.lo else S.lo) = S.lo := if_neg c179
                          refine JC.skip ?_
                          refine JC.rs ?_
                          refine Seq.p rfl Ev.move ?_
                          refine Seq.p rfl Ev.move ?_
                          refine Seq.p rfl (Ev.iaN sl.sl_api_Bar (hr := (RAt.own (enc := Bar.enc) (v := .slice A73 B.length c73) (xs := B) (hs := by omega)))) ?_
                          refine Seq.p rfl (Ev.fa fd.api_Bar_3) ?_
                          refine Seq.p rfl (Ev.ldE sc.int (hr := (RAt.own (enc := Bar.enc) (v := .slice A73 B.length c73) (xs := B) (hs := by omega)))) ?_
                          refine Seq.p rfl (Ev.faB fd.api_Bar_3) ?_
                          refine Seq.storeN [_, _, _, _, _, _] sz.int (k := ?_)
                          refine Seq.nil ?_
                          refine JC.asE 0 mixed ?_
                          refine Any.p 0 rfl (by kernel_rfl) (by kernel_rfl) (by kernel_rfl) rfl (Ev.faB fd.api_Bar_4) ?_
                          refine Any.p 2 rfl (by kernel_rfl) (by kernel_rfl) (by kernel_rfl) rfl Ev.move ?_
                          refine Any.p 3 rfl (by kernel_rfl) (by kernel_rfl) (by kernel_rfl) rfl Ev.move ?_
                          refine Any.p 4 rfl (by kernel_rfl) (by kernel_rfl) (by kernel_rfl) rfl (Ev.iaN sl.sl_api_Bar (hr := (RAt.own (enc := Bar.enc) (v := .slice A73 B.length c73) (xs := B) (hs := by omega)))) ?_
                          refine Any.p 5 rfl (by kernel_rfl) (by kernel_rfl) (by kernel_rfl) rfl (Ev.fa fd.api_Bar_4) ?_
                          refine Any.p 6 rfl (by kernel_rfl) (by kernel_rfl) (by kernel_rfl) rfl (Ev.ldE sc.uint64 (hr := (RAt.own (enc := Bar.enc) (v := .slice A73 B.length c73) (xs := B) (hs := by omega)))) ?_
                          refine Any.one 1 rfl (by kernel_rfl) ?_
                          refine Seq.p rfl (Ev.ldB sc.uint64) ?_
                          refine Seq.nil ⟨(by repeat (first | exact Part.refl _ | exact Part.nil _ | apply Part.here | apply Part.skip)), ?_⟩
                          refine Any.p 7 rfl (by kernel_rfl) (by kernel_rfl) (by kernel_rfl) rfl Ev.addNM ?_
                          refine Any.p 8 rfl (by kernel_rfl) (by kernel_rfl) (by kernel_rfl) rfl (Ev.faB fd.api_Bar_4) ?_
                          refine Any.one 9 rfl (by kernel_rfl) ?_
                          refine Seq.storeN [_, _, _, _, _, _] sz.uint64 (k := ?_)
                          refine Seq.nil ⟨(by repeat (first | exact Part.refl _ | exact Part.nil _ | apply Part.here | apply Part.skip)), ?_⟩
                          refine Any.done (by kernel_rfl) ?_
                          refine JC.anyE 0 mixed ?_
                          refine Any.p 0 rfl (by kernel_rfl) (by kernel_rfl) (by kernel_rfl) rfl (Ev.faB fd.api_Bar_5) ?_
                          refine Any.p 2 rfl (by kernel_rfl) (by kernel_rfl) (by kernel_rfl) rfl Ev.move ?_
                          refine Any.p 3 rfl (by kernel_rfl) (by kernel_rfl) (by kernel_rfl) rfl Ev.move ?_
                          refine Any.p 4 rfl (by kernel_rfl) (by kernel_rfl) (by kernel_rfl) rfl (Ev.iaN sl.sl_api_Bar (hr := (RAt.own (enc := Bar.enc) (v := .slice A73 B.length c73) (xs := B) (hs := by omega)))) ?_
                          refine Any.p 5 rfl (by kernel_rfl) (by kernel_rfl) (by kernel_rfl) rfl (Ev.fa fd.api_Bar_5) ?_
                          refine Any.p 6 rfl (by kernel_rfl) (by kernel_rfl) (by kernel_rfl) rfl (Ev.ldE sc.int (hr := (RAt.own (enc := Bar.enc) (v := .slice A73 B.length c73) (xs := B) (hs := by omega)))) ?_
                          refine Any.one 1 rfl (by kernel_rfl) ?_
                          refine Seq.p rfl (Ev.ldB sc.int) ?_
                          refine Seq.nil ⟨(by repeat (first | exact Part.refl _ | exact Part.nil _ | apply Part.here | apply Part.skip)), ?_⟩
                          refine Any.p 7 rfl (by kernel_rfl) (by kernel_rfl) (by kernel_rfl) rfl Ev.add ?_
                          refine Any.p 8 rfl (by kernel_rfl) (by kernel_rfl) (by kernel_rfl) rfl (Ev.faB fd.api_Bar_5) ?_
                          refine Any.one 9 rfl (by kernel_rfl) ?_
                          refine Seq.storeN [_, _, _, _, _, _] sz.int (k := ?_)
                          refine Seq.nil ⟨(by repeat (first | exact Part.refl _ | exact Part.nil _ | apply Part.here | apply Part.skip)), ?_⟩
                          refine Any.done (by kernel_rfl) ?_
                          refine JC.reg ?_
                          refine Seq.p rfl Ev.move ?_
                          refine Seq.p rfl (by first | exact Ev.inc | exact Ev.add) ?_
                          refine Seq.p rfl Ev.assign ?_
                          refine Seq.nil ?_
                          refine ⟨i + 1, _, Part.refl _, ⟨Has.mk (by repeat (first | refine Off.upd ?_ rfl | exact Off.mix | refine Off.mix2 ?_ rfl | exact Off.refl)) (allLook_cons (by repeat (first | exact Look.here | apply Look.there (hne := rfl) | exact Look.const | apply Look.mix rfl | exact Look.arg0 | apply Look.args | exact Look.func)) allLook_nil), ?_, by omega⟩, by omega⟩
                          first | (rw [hS1 (by omega)]; rfl) | (rw [hST2, show (mergeF S B[i]!).enc = [.int .i64 S.op, .int .i64 (if S.hi < B[i]!.hi then B[i]!.hi else S.hi), .int .i64 (if B[i]!.lo < S.lo then B[i]!.lo else S.lo), .int .i64 B[i]!.cl, .int .u64 (((S.vol + B[i]!.vol) % 18446744073709551616 : Nat) : Int), .int .i64 ((S.n + B[i]!.n : Nat) : Int)] from rfl, hA1, hA2, Int.natCast_add]; rfl)
                · -- else_t119
                  obtain rfl : i = B.length := by omega
                  rw [List.take_length, hSB]
                  refine JC.exit ?_ -- 0
                  refine JC.seq ?_
                  refine JC.rs ?_
                  refine Seq.p rfl (Ev.ldBA (cs := (barF (tradesF es)).enc) ag.api_Bar) ?_
                  refine Seq.p rfl (Ev.ldBA (cs := (barF (tradesF es)).enc) ag.api_Bar) ?_
                  refine Seq.p rfl (Ev.as (v' := .bool false) (by rw [Bar.eqL_enc]; simp) (Ev.neAg (xs := (barF (tradesF es)).enc) (ys := (barF (tradesF es)).enc) so.api_Bar ag.api_Bar gd.api_Bar)) ?_
                  refine Seq.nil ?_
                  first | refine JC.c (ht := fun c212 => ?_) (hf := fun c212 => ?_) | refine JC.cb (ht := fun c212 => ?_) (hf := fun c212 => ?_)
                  · -- then_t212
                    cases c212
                  · -- else_t212
                    refine JC.skip ?_
                    refine JC.seq ?_
                    refine JC.rs ?_
                    refine Seq.p rfl Ev.move ?_
                    refine Seq.p rfl Ev.move ?_
                    refine Seq.andG (D := [214, 215, 216, 217, 218]) (d := 214) (t := 218) (k := 4) (hn := fun h214 => ?_) (hx := ?_)
                    · repeat (first | refine Seq.gn rfl rfl rfl rfl ?_ | refine Seq.gu rfl rfl rfl ?_)
                      refine Seq.p rfl Ev.pickF ?_
                      exact Seq.nil ⟨rfl, (by repeat (first | with_reducible exact Off.refl | refine Off.upd ?_ rfl | exact Off.mix | refine Off.mix2 ?_ rfl)), Look.here⟩
                    apply Exists.intro
                    refine ⟨fun h214 => ?_, fun u218 => ?_⟩
                    · try simp only [decide_eq_true_eq, decide_eq_false_iff_not, Bool.and_eq_true, Bool.or_eq_true, Bool.not_eq_true', Bool.not_eq_false', Bool.or_eq_false_iff, Bool.and_eq_false_imp] at h214
                      refine Seq.gy rfl rfl rfl ?_
                      refine Seq.p rfl (Ev.faB fd.api_Bar_2) ?_
                      refine Seq.gy rfl rfl rfl ?_
                      refine Seq.p rfl (Ev.ldB sc.int) ?_
                      refine Seq.gy rfl rfl rfl ?_
                      refine Seq.p rfl Ev.ge ?_
                      refine Seq.p rfl Ev.pickT ?_
                      exact Seq.nil ⟨rfl, (by repeat (first | with_reducible exact Off.refl | refine Off.upd ?_ rfl | exact Off.mix | refine Off.mix2 ?_ rfl)), Look.here⟩
                    refine Seq.p rfl Ev.move ?_
                    refine Seq.andG (D := [219, 220, 221, 222, 223]) (d := 219) (t := 223) (k := 4) (hn := fun h219 => ?_) (hx := ?_)
                    · repeat (first | refine Seq.gn rfl rfl rfl rfl ?_ | refine Seq.gu rfl rfl rfl ?_)
                      refine Seq.p rfl Ev.pickF ?_
                      exact Seq.nil ⟨rfl, (by repeat (first | with_reducible exact Off.refl | refine Off.upd ?_ rfl | exact Off.mix | refine Off.mix2 ?_ rfl)), Look.here⟩
                    apply Exists.intro
                    refine ⟨fun h219 => ?_, fun u223 => ?_⟩
                    · try simp only [decide_eq_true_eq, decide_eq_false_iff_not, Bool.and_eq_true, Bool.or_eq_true, Bool.not_eq_true', Bool.not_eq_false', Bool.or_eq_false_iff, Bool.and_eq_false_imp] at h219
                      refine Seq.gy rfl rfl rfl ?_
                      refine Seq.p rfl (Ev.faB fd.api_Bar_1) ?_
                      refine Seq.gy rfl rfl rfl ?_
                      refine Seq.p rfl (Ev.ldB sc.int) ?_
                      refine Seq.gy rfl rfl rfl ?_
                      refine Seq.p rfl Ev.lt ?_
                      refine Seq.p rfl Ev.pickT ?_
                      exact Seq.nil ⟨rfl, (by repeat (first | with_reducible exact Off.refl | refine Off.upd ?_ rfl | exact Off.mix | refine Off.mix2 ?_ rfl)), Look.here⟩
                    refine Seq.nil ?_
                    first | refine JC.c (ht := fun c223 => ?_) (hf := fun c223 => ?_) | refine JC.cb (ht := fun c223 => ?_) (hf := fun c223 => ?_)
                    · -- then_t223
                      simp only [Bool.and_eq_true, decide_eq_true_eq] at c223
                      have hmb := mean_between c223.1.1 c223.1.2 c223.2
                      refine JC.rs ?_
                      refine Seq.p rfl Ev.move ?_
                      refine Seq.p rfl (Ev.faB fd.api_Bar_2) ?_
                      refine Seq.p rfl (Ev.ldB sc.int) ?_
                      refine Seq.p rfl (Ev.convU64W it.int it.uint64) ?_
                      refine Seq.p rfl Ev.mulU ?_
                      refine Seq.p rfl Ev.ge ?_
                      refine Seq.p rfl Ev.move ?_
                      refine Seq.andG (D := [230, 231, 232, 233, 234, 235, 236, 237]) (d := 230) (t := 237) (k := 7) (hn := fun h230 => ?_) (hx := ?_)
                      · repeat (first | refine Seq.gn rfl rfl rfl rfl ?_ | refine Seq.gu rfl rfl rfl ?_)
                        refine Seq.p rfl Ev.pickF ?_
                        exact Seq.nil ⟨rfl, (by repeat (first | with_reducible exact Off.refl | refine Off.upd ?_ rfl | exact Off.mix | refine Off.mix2 ?_ rfl)), Look.here⟩
                      apply Exists.intro
                      refine ⟨fun h230 => ?_, fun u237 => ?_⟩
                      · try simp only [decide_eq_true_eq, decide_eq_false_iff_not, Bool.and_eq_true, Bool.or_eq_true, Bool.not_eq_true', Bool.not_eq_false', Bool.or_eq_false_iff, Bool.and_eq_false_imp] at h230
                        refine Seq.gy rfl rfl rfl ?_
                        refine Seq.p rfl Ev.move ?_
                        refine Seq.gy rfl rfl rfl ?_
                        refine Seq.p rfl (Ev.faB fd.api_Bar_1) ?_
                        refine Seq.gy rfl rfl rfl ?_
                        refine Seq.p rfl (Ev.ldB sc.int) ?_
                        refine Seq.gy rfl rfl rfl ?_
                        refine Seq.p rfl (Ev.convU64W it.int it.uint64) ?_
                        refine Seq.gy rfl rfl rfl ?_
                        refine Seq.p rfl Ev.mulU ?_
                        refine Seq.gy rfl rfl rfl ?_
                        refine Seq.p rfl Ev.le ?_
                        refine Seq.p rfl Ev.pickT ?_
                        exact Seq.nil ⟨rfl, (by repeat (first | with_reducible exact Off.refl | refine Off.upd ?_ rfl | exact Off.mix | refine Off.mix2 ?_ rfl)), Look.here⟩
                      refine Seq.p rfl Ev.assign ?_
                      refine Seq.nil ?_
                      refine JC.ret ?_
                      show retQ _ _ _ _ _ _ _ _
                      refine ret1 (hp := Part.nil _) (hpost := ?_)
                      first | (simp [*]; done) | (simp; omega)
                    · -- else_t223
                      refine JC.skip ?_
                      refine JC.rs ?_
                      refine Seq.p rfl Ev.assign ?_
                      refine Seq.nil ?_
                      refine JC.ret ?_
                      show retQ _ _ _ _ _ _ _ _
                      refine ret1 (hp := Part.nil _) (hpost := ?_)
                      first | (simp [*]; done) | (simp; omega)
            · try simp only [decide_eq_true_eq, decide_eq_false_iff_not] at h106
              simp at h106
          · try simp only [decide_eq_true_eq, decide_eq_false_iff_not] at h101
            simp at h101
        · try simp only [decide_eq_true_eq, decide_eq_false_iff_not] at h96
          simp at h96
      · try simp only [decide_eq_true_eq, decide_eq_false_iff_not] at h88
        cases h88
end Go.Rx
/- The law ConsoleBars gives true: the cut lies outside. -/
namespace Go.Rx
open Go Go.RowKit
set_option linter.unusedVariables false
set_option linter.unusedSimpArgs false
set_option maxHeartbeats 4000000 in
set_option maxRecDepth 100000 in
theorem lawBarsOut {w : World} {v : Value} {es : List Event} {each cut : Int} (he : RSl Event.enc 13 w [] v es) (hlim : es.length * 104 ≤ 140737488355328) (hq : goodQ es) (hcut : cut < 0 ∨ es.length < cut) :
    Spec Go.Proofs.Try.prog 3 #[v, .int .i64 each, .int .i64 cut] w [] (fun u _ => u = .bool true) := by
  have hs := he.small
  have hTq := tradesF_q hq
  have hTl := tradesF_len es
  have hTc : ∀ k, tradesF (es.take k) ++ tradesF (es.drop k) = tradesF es := fun k => by rw [← tradesF_append, List.take_append_drop]
  refine Spec.enter (fn := Go.Proofs.Try.f3) (n := 238) [v, .int .i64 each, .int .i64 cut] Go.Proofs.Try.func3 (by kernel_rfl) rfl Go.Proofs.Try.ntmps3 Go.Proofs.Try.results3 rfl (Own.nil _) ?_
  refine JC.rs ?_
  refine Seq.p rfl Ev.assign ?_
  refine Seq.nil ?_
  refine JC.rs ?_
  refine Seq.call rfl (fun w hw => statsNew) (F := _) (by exact List.Perm.refl _) ?_
  rintro _ _ ⟨b17, rfl, rfl⟩
  simp only [List.cons_append, List.nil_append]
  refine Seq.call rfl (fun w hw => statsNew) (F := _) (by exact List.Perm.refl _) ?_
  rintro _ _ ⟨b18, rfl, rfl⟩
  simp only [List.cons_append, List.nil_append]
  refine Seq.p rfl Ev.assign ?_
  refine Seq.p rfl Ev.assign ?_
  refine Seq.nil ?_
  refine JC.seq ?_
  refine JC.rs ?_
  refine Seq.p rfl Ev.move ?_
  refine Seq.p rfl (Ev.eqNilP und.p_console_Stats) ?_
  refine Seq.p rfl Ev.move ?_
  refine Seq.orG (D := [21, 22, 23, 24]) (d := 21) (t := 24) (k := 3) (hn := fun h21 => ?_) (hx := ?_)
  · repeat (first | refine Seq.gn rfl rfl rfl rfl ?_ | refine Seq.gu rfl rfl rfl ?_)
    refine Seq.p rfl Ev.pickT ?_
    exact Seq.nil ⟨rfl, (by repeat (first | with_reducible exact Off.refl | refine Off.upd ?_ rfl | exact Off.mix | refine Off.mix2 ?_ rfl)), Look.here⟩
  apply Exists.intro
  refine ⟨fun h21 => ?_, fun u24 => ?_⟩
  · try simp only [decide_eq_true_eq, decide_eq_false_iff_not, Bool.and_eq_true, Bool.or_eq_true, Bool.not_eq_true', Bool.not_eq_false', Bool.or_eq_false_iff, Bool.and_eq_false_imp] at h21
    refine Seq.gy rfl rfl rfl ?_
    refine Seq.p rfl Ev.move ?_
    refine Seq.gy rfl rfl rfl ?_
    refine Seq.p rfl (Ev.eqNilP und.p_console_Stats) ?_
    refine Seq.p rfl Ev.pickF ?_
    exact Seq.nil ⟨rfl, (by repeat (first | with_reducible exact Off.refl | refine Off.upd ?_ rfl | exact Off.mix | refine Off.mix2 ?_ rfl)), Look.here⟩
  refine Seq.p rfl Ev.move ?_
  refine Seq.orG (D := [25, 26, 27, 28]) (d := 25) (t := 28) (k := 3) (hn := fun h25 => ?_) (hx := ?_)
  · repeat (first | refine Seq.gn rfl rfl rfl rfl ?_ | refine Seq.gu rfl rfl rfl ?_)
    refine Seq.p rfl Ev.pickT ?_
    exact Seq.nil ⟨rfl, (by repeat (first | with_reducible exact Off.refl | refine Off.upd ?_ rfl | exact Off.mix | refine Off.mix2 ?_ rfl)), Look.here⟩
  apply Exists.intro
  refine ⟨fun h25 => ?_, fun u28 => ?_⟩
  · try simp only [decide_eq_true_eq, decide_eq_false_iff_not, Bool.and_eq_true, Bool.or_eq_true, Bool.not_eq_true', Bool.not_eq_false', Bool.or_eq_false_iff, Bool.and_eq_false_imp] at h25
    refine Seq.gy rfl rfl rfl ?_
    refine Seq.p rfl Ev.move ?_
    refine Seq.gy rfl rfl rfl ?_
    refine Seq.p rfl Ev.lt ?_
    refine Seq.p rfl Ev.pickF ?_
    exact Seq.nil ⟨rfl, (by repeat (first | with_reducible exact Off.refl | refine Off.upd ?_ rfl | exact Off.mix | refine Off.mix2 ?_ rfl)), Look.here⟩
  refine Seq.nil ?_
  first | refine JC.c (ht := fun c28 => ?_) (hf := fun c28 => ?_) | refine JC.cb (ht := fun c28 => ?_) (hf := fun c28 => ?_)
  · -- then_t28
    refine JC.rs ?_
    refine Seq.p rfl Ev.move ?_
    refine Seq.p rfl (Ev.neNilP und.p_console_Stats) ?_
    refine Seq.p rfl Ev.move ?_
    refine Seq.andG (D := [31, 32, 33, 34]) (d := 31) (t := 34) (k := 3) (hn := fun h31 => ?_) (hx := ?_)
    · repeat (first | refine Seq.gn rfl rfl rfl rfl ?_ | refine Seq.gu rfl rfl rfl ?_)
      refine Seq.p rfl Ev.pickF ?_
      exact Seq.nil ⟨rfl, (by repeat (first | with_reducible exact Off.refl | refine Off.upd ?_ rfl | exact Off.mix | refine Off.mix2 ?_ rfl)), Look.here⟩
    apply Exists.intro
    refine ⟨fun h31 => ?_, fun u34 => ?_⟩
    · try simp only [decide_eq_true_eq, decide_eq_false_iff_not, Bool.and_eq_true, Bool.or_eq_true, Bool.not_eq_true', Bool.not_eq_false', Bool.or_eq_false_iff, Bool.and_eq_false_imp] at h31
      refine Seq.gy rfl rfl rfl ?_
      refine Seq.p rfl Ev.move ?_
      refine Seq.gy rfl rfl rfl ?_
      refine Seq.p rfl (Ev.neNilP und.p_console_Stats) ?_
      refine Seq.p rfl Ev.pickT ?_
      exact Seq.nil ⟨rfl, (by repeat (first | with_reducible exact Off.refl | refine Off.upd ?_ rfl | exact Off.mix | refine Off.mix2 ?_ rfl)), Look.here⟩
    refine Seq.p rfl Ev.move ?_
    refine Seq.split (d := 35) (k := ?_)
    rintro (_|_) h35
    · try simp only [decide_eq_true_eq, decide_eq_false_iff_not] at h35
      simp at h35
    · try simp only [decide_eq_true_eq, decide_eq_false_iff_not] at h35
      refine Seq.gy rfl rfl rfl ?_
      refine Seq.p rfl Ev.move ?_
      refine Seq.gy rfl rfl rfl ?_
      refine Seq.p rfl Ev.move ?_
      refine Seq.gy rfl rfl rfl ?_
      refine Seq.call rfl (fun w hw => atBars (b := b17) (v := .slice none 0 0) (l := []) (At.s (At.s At.z)) (At.s (At.s (At.s At.z))) (by simp) (by simp) hw) (Gs := []) (F := _) (by exact List.Perm.refl _) ?_
      rintro _ _ ⟨A38, c38, rfl, rfl⟩
      rw [barsF_nil]
      simp only [List.cons_append, List.nil_append]
      refine Seq.gy rfl rfl rfl ?_
      refine Seq.p rfl (Ev.lenSl sl.sl_api_Bar (hr := RAt.own (enc := Bar.enc) (xs := []) At.z rfl rfl (fun _ => rfl) (by simp))) ?_
      refine Seq.gy rfl rfl rfl ?_
      refine Seq.p rfl Ev.eq ?_
      refine Seq.p rfl Ev.pickT ?_
      refine Seq.p rfl Ev.assign ?_
      refine Seq.nil ?_
      refine JC.ret ?_
      show retQ _ _ _ _ _ _ _ _
      refine ret1 (hp := Part.nil _) (hpost := ?_)
      first | (simp [*]; done) | (simp; omega)
  · -- else_t28
    refine JC.skip ?_
    refine JC.rs ?_
    refine Seq.p rfl Ev.move ?_
    refine Seq.buildSl (cs := []) (hsl := sl.sl_api_Event) (hz := z.api_Event) (hcs := rfl) (k := ?_); intro b43
    refine Seq.re (fun w h => Upd.boxOwn h (n := 0) (size := 13) At.z rfl (by omega)) ?_
    refine Seq.p rfl Ev.move ?_
    refine Seq.append (hsl := sl.sl_api_Event) (he := el.api_Event) (hH := At.z) (hsrc := fun w' hw => Src.rsl sl.sl_api_Event (he.up hw) (by omega) evOne) (k := ?_); intro A45 c45
    rw [Nat.zero_add es.length, List.nil_append]
    refine Seq.call rfl (fun w' hw => statsAdd (l := []) (bs := b17) (A := none) (c := 0) (es := es) (hw.part (by repeat (first | exact Part.nil _ | refine Part.at (by repeat (first | exact At.z | apply At.s)) ?_))).own ((RSl.owned (enc := Event.enc) (xs := es) At.z hw rfl rfl (fun _ => rfl) hs).part (by repeat (first | exact Part.nil _ | refine Part.at (by repeat (first | exact At.z | apply At.s)) ?_))) (by simp; omega) hq) (Gs := [statsC b17 (.slice none 0 0), trdC (.slice none 0 0) []]) (F := [_, _, _]) (by exact (List.perm_append_comm (l₁ := [_, _]) (l₂ := [_, _, _]))) ?_
    rintro _ _ ⟨A46, c46, rfl⟩
    simp only [List.cons_append, List.nil_append]
    refine Seq.nil ?_
    refine JC.seq ?_
    refine JC.rs ?_
    refine Seq.p rfl Ev.move ?_
    refine Seq.p rfl Ev.lt ?_
    refine Seq.p rfl Ev.move ?_
    refine Seq.orG (D := [49, 50, 51, 52, 53, 54]) (d := 49) (t := 54) (k := 5) (hn := fun h49 => ?_) (hx := ?_)
    · repeat (first | refine Seq.gn rfl rfl rfl rfl ?_ | refine Seq.gu rfl rfl rfl ?_)
      refine Seq.p rfl Ev.pickT ?_
      exact Seq.nil ⟨rfl, (by repeat (first | with_reducible exact Off.refl | refine Off.upd ?_ rfl | exact Off.mix | refine Off.mix2 ?_ rfl)), Look.here⟩
    apply Exists.intro
    refine ⟨fun h49 => ?_, fun u54 => ?_⟩
    · try simp only [decide_eq_true_eq, decide_eq_false_iff_not, Bool.and_eq_true, Bool.or_eq_true, Bool.not_eq_true', Bool.not_eq_false', Bool.or_eq_false_iff, Bool.and_eq_false_imp] at h49
      refine Seq.gy rfl rfl rfl ?_
      refine Seq.p rfl Ev.move ?_
      refine Seq.gy rfl rfl rfl ?_
      refine Seq.p rfl Ev.move ?_
      refine Seq.gy rfl rfl rfl ?_
      refine Seq.p rfl (Ev.lenSl sl.sl_api_Event (hr := he.r)) ?_
      refine Seq.gy rfl rfl rfl ?_
      refine Seq.p rfl Ev.gt ?_
      refine Seq.p rfl Ev.pickF ?_
      exact Seq.nil ⟨rfl, (by repeat (first | with_reducible exact Off.refl | refine Off.upd ?_ rfl | exact Off.mix | refine Off.mix2 ?_ rfl)), Look.here⟩
    refine Seq.nil ?_
    first | refine JC.c (ht := fun c54 => ?_) (hf := fun c54 => ?_) | refine JC.cb (ht := fun c54 => ?_) (hf := fun c54 => ?_)
    · -- then_t54
      obtain ⟨k, hk, hkl⟩ : ∃ k : Nat, k = 0 ∧ k ≤ es.length := ⟨0, rfl, by omega⟩
      have hsub1 := he.sub (lo := 0) (hi := k) (by omega) hkl
      rw [List.drop_zero, Nat.sub_zero] at hsub1
      have hsub2 := he.sub (lo := k) (hi := es.length) hkl (by omega)
      rw [List.take_of_length_le (by rw [List.length_drop]; exact Nat.le_refl _)] at hsub2
      have hp1 : (es.take k).length = k := by rw [List.length_take]; omega
      have hp2 : (es.drop k).length = es.length - k := List.length_drop ..
      have hT2 := hTc k
      have hq1 : goodQ (es.take k) := fun e h => hq e (List.mem_of_mem_take h)
      have hq2 : goodQ (es.drop k) := fun e h => hq e (List.mem_of_mem_drop h)
      have ht1 := tradesF_len (es.take k)
      obtain ⟨P1, hP1⟩ : ∃ P, P = es.take k := ⟨_, rfl⟩
      obtain ⟨P2, hP2⟩ : ∃ P, P = es.drop k := ⟨_, rfl⟩
      rw [← hP1] at hsub1 hp1 hT2 hq1 ht1
      rw [← hP2] at hsub2 hp2 hT2 hq2
      refine JC.reg ?_
      refine Seq.p rfl (Ev.as (v' := .int .i64 (k : Int)) (by rw [hk]) Ev.assign) ?_
      refine Seq.nil ?_
      refine JC.rs ?_
      refine Seq.p rfl Ev.move ?_
      refine Seq.buildSl (cs := []) (hsl := sl.sl_api_Event) (hz := z.api_Event) (hcs := rfl) (k := ?_); intro b56
      refine Seq.re (fun w h => Upd.boxOwn h (n := 0) (size := 13) At.z rfl (by omega)) ?_
      refine Seq.p rfl Ev.move ?_
      refine Seq.p rfl Ev.move ?_
      refine Seq.p rfl (Ev.cut sl.sl_api_Event (hr := he.r) (l := 0) (h := k) (hlo := rfl) (hhi := ⟨_, (by repeat (first | exact Look.here | apply Look.there (hne := rfl) | exact Look.const | apply Look.mix rfl | exact Look.arg0 | apply Look.args | exact Look.func))⟩)) ?_
      rw [show subSl v 0 k 13 = subSl v 0 k 13 from rfl]
      refine Seq.append (j := P1.length) (hsl := sl.sl_api_Event) (he := el.api_Event) (hH := At.z) (hsrc := fun w' hw => Src.rsl sl.sl_api_Event (hsub1.up hw) (by omega) evOne) (k := ?_); intro A60 c60
      rw [Nat.zero_add P1.length, List.nil_append]
      refine Seq.call rfl (fun w' hw => statsAdd (l := []) (bs := b18) (A := none) (c := 0) (es := P1) (hw.part (by repeat (first | exact Part.nil _ | refine Part.at (by repeat (first | exact At.z | apply At.s)) ?_))).own ((RSl.owned (enc := Event.enc) (xs := P1) At.z hw rfl rfl (fun _ => rfl) (by omega)).part (by repeat (first | exact Part.nil _ | refine Part.at (by repeat (first | exact At.z | apply At.s)) ?_))) (by simp; omega) hq1) (Gs := [statsC b18 (.slice none 0 0), trdC (.slice none 0 0) []]) (F := [_, _, _, _]) (by exact (List.perm_append_comm (l₁ := [_, _]) (l₂ := [_, _, _, _]))) ?_
      rintro _ _ ⟨A61, c61, rfl⟩
      simp only [List.cons_append, List.nil_append]
      refine Seq.nil ?_
      refine JC.rs ?_
      refine Seq.p rfl Ev.move ?_
      refine Seq.buildSl (cs := []) (hsl := sl.sl_api_Event) (hz := z.api_Event) (hcs := rfl) (k := ?_); intro b63
      refine Seq.re (fun w h => Upd.boxOwn h (n := 0) (size := 13) At.z rfl (by omega)) ?_
      refine Seq.p rfl Ev.move ?_
      refine Seq.p rfl Ev.move ?_
      refine Seq.p rfl (Ev.cut sl.sl_api_Event (hr := he.r) (l := k) (h := es.length) (hlo := ⟨_, (by repeat (first | exact Look.here | apply Look.there (hne := rfl) | exact Look.const | apply Look.mix rfl | exact Look.arg0 | apply Look.args | exact Look.func))⟩) (hhi := rfl)) ?_
      refine Seq.append (j := P2.length) (hsl := sl.sl_api_Event) (he := el.api_Event) (hH := At.z) (hsrc := fun w' hw => Src.rsl sl.sl_api_Event (hsub2.up hw) (by omega) evOne) (k := ?_); intro A67 c67
      rw [Nat.zero_add P2.length, List.nil_append]
      refine Seq.call rfl (fun w' hw => statsAdd (l := tradesF P1) (bs := b18) (A := A61) (c := c61) (es := P2) (hw.part (by repeat (first | exact Part.nil _ | refine Part.at (by repeat (first | exact At.z | apply At.s)) ?_))).own ((RSl.owned (enc := Event.enc) (xs := P2) At.z hw rfl rfl (fun _ => rfl) (by omega)).part (by repeat (first | exact Part.nil _ | refine Part.at (by repeat (first | exact At.z | apply At.s)) ?_))) (by omega) hq2) (Gs := [statsC b18 (.slice A61 (tradesF P1).length c61), trdC (.slice A61 (tradesF P1).length c61) (tradesF P1)]) (F := [_, _, _, _, _]) (by exact (List.perm_append_comm (l₁ := [_, _]) (l₂ := [_])).append_right [_, _, _, _]) ?_
      rintro _ _ ⟨A68, c68, rfl⟩
      rw [hT2]
      simp only [List.cons_append, List.nil_append]
      refine Seq.nil ?_
      refine JC.rs ?_
      refine Seq.p rfl Ev.move ?_
      refine Seq.callP rfl (fun w hw => atDay (l := tradesF es) (by repeat (first | exact At.z | apply At.s)) (by repeat (first | exact At.z | apply At.s)) (by omega) hTq hw) ?_
      refine Seq.p rfl Ev.move ?_
      refine Seq.p rfl Ev.move ?_
      refine Seq.call rfl (fun w hw => atBars (l := tradesF es) (by repeat (first | exact At.z | apply At.s)) (by repeat (first | exact At.z | apply At.s)) (by omega) hTq hw) (Gs := []) (F := _) (by exact List.Perm.refl _) ?_
      rintro _ _ ⟨A73, c73, rfl, rfl⟩
      simp only [List.cons_append, List.nil_append]
      have hBl := barsF_len each.toNat _ (tradesF es) (Nat.le_refl _)
      obtain ⟨B, hB⟩ : ∃ B, B = barsF each.toNat (tradesF es) := ⟨_, rfl⟩
      rw [← hB] at hBl ⊢
      refine Seq.alloc (cs := [_, _, _, _, _, _]) (hz := z.api_Bar) (k := ?_); intro b9
      refine Seq.storeTo (cs' := (barF (tradesF es)).enc) sz.api_Bar (hH := At.z) (hfit := Nat.le_of_ble_eq_true rfl) (hcs := rfl) (k := ?_)
      refine Seq.p rfl Ev.assign ?_
      refine Seq.nil ?_
      refine JC.rs ?_
      refine Seq.p rfl Ev.move ?_
      refine Seq.callP rfl (fun w hw => atMean (l := tradesF es) (by repeat (first | exact At.z | apply At.s)) (by repeat (first | exact At.z | apply At.s)) (by omega) hTq hw) ?_
      refine Seq.p rfl Ev.move ?_
      refine Seq.p rfl Ev.extract ?_
      refine Seq.p rfl Ev.extract ?_
      refine Seq.p rfl Ev.assign ?_
      refine Seq.p rfl Ev.assign ?_
      refine Seq.nil ?_
      refine JC.rs ?_
      refine Seq.p rfl Ev.move ?_
      refine Seq.callP rfl (fun w hw => atMean (l := tradesF es) (by repeat (first | exact At.z | apply At.s)) (by repeat (first | exact At.z | apply At.s)) (by omega) hTq hw) ?_
      refine Seq.p rfl Ev.move ?_
      refine Seq.p rfl Ev.extract ?_
      refine Seq.p rfl Ev.extract ?_
      refine Seq.p rfl Ev.assign ?_
      refine Seq.p rfl Ev.assign ?_
      refine Seq.nil ?_
      refine JC.seq ?_
      refine JC.as mixed ?_
      refine Any.p 0 rfl (by kernel_rfl) (by kernel_rfl) (by kernel_rfl) rfl (Ev.ldBA (cs := (barF (tradesF es)).enc) ag.api_Bar) ?_
      refine Any.p 1 rfl (by kernel_rfl) (by kernel_rfl) (by kernel_rfl) rfl Ev.move ?_
      refine Any.call 2 rfl (by kernel_rfl) (by kernel_rfl) (by kernel_rfl) rfl (fun w hw => atDay (l := tradesF es) (by repeat (first | exact At.z | apply At.s)) (by repeat (first | exact At.z | apply At.s)) (by omega) hTq hw) ?_
      refine Any.p 3 rfl (by kernel_rfl) (by kernel_rfl) (by kernel_rfl) rfl (Ev.as (v' := .bool false) (by rw [Bar.eqL_enc]; simp) (Ev.neAg (xs := (barF (tradesF es)).enc) (ys := (barF (tradesF es)).enc) so.api_Bar ag.api_Bar gd.api_Bar)) ?_
      refine Any.p 4 rfl (by kernel_rfl) (by kernel_rfl) (by kernel_rfl) rfl Ev.move ?_
      refine Any.split (d := 88) (k := ?_)
      rintro (_|_) h88
      · try simp only [decide_eq_true_eq, decide_eq_false_iff_not] at h88
        refine Any.gy 5 rfl (by kernel_rfl) (by kernel_rfl) (by kernel_rfl) rfl rfl rfl rfl Ev.move ?_
        refine Any.gy 6 rfl (by kernel_rfl) (by kernel_rfl) (by kernel_rfl) rfl rfl rfl rfl Ev.move ?_
        refine Any.gy 7 rfl (by kernel_rfl) (by kernel_rfl) (by kernel_rfl) rfl rfl rfl rfl Ev.move ?_
        refine Any.one 8 rfl (by kernel_rfl) ?_
        refine Seq.gy rfl rfl rfl ?_
        refine Seq.call rfl (fun w hw => atBars (l := tradesF es) (by repeat (first | exact At.z | apply At.s)) (by repeat (first | exact At.z | apply At.s)) (by omega) hTq hw) (Gs := []) (F := _) (by exact List.Perm.refl _) ?_
        rintro _ _ ⟨A92, c92, rfl, rfl⟩
        rw [← hB]
        simp only [List.cons_append, List.nil_append]
        refine Seq.nil ⟨(by repeat (first | exact Part.refl _ | exact Part.nil _ | apply Part.here | apply Part.skip)), ?_⟩
        refine Any.one 9 rfl (by kernel_rfl) ?_
        refine Seq.gy rfl rfl rfl ?_
        refine Seq.callP rfl (fun w hw => barsEqual (xs := B) (ys := B) (RAt.up (RAt.own (enc := Bar.enc) (v := .slice A73 B.length c73) (xs := B) (hs := by omega)) hw) (RAt.up (RAt.own (enc := Bar.enc) (v := .slice A92 B.length c92) (xs := B) (hs := by omega)) hw)) ?_
        refine Seq.nil ⟨(by repeat (first | exact Part.refl _ | exact Part.nil _ | apply Part.here | apply Part.skip)), ?_⟩
        refine Any.gy 10 rfl (by kernel_rfl) (by kernel_rfl) (by kernel_rfl) rfl rfl rfl rfl Ev.not ?_
        refine Any.p 11 rfl (by kernel_rfl) (by kernel_rfl) (by kernel_rfl) rfl Ev.pickF ?_
        refine Any.p 12 rfl (by kernel_rfl) (by kernel_rfl) (by kernel_rfl) rfl Ev.move ?_
        refine Any.split (d := 96) (k := ?_)
        rintro (_|_) h96
        · try simp only [decide_eq_true_eq, decide_eq_false_iff_not] at h96
          refine Any.gy 13 rfl (by kernel_rfl) (by kernel_rfl) (by kernel_rfl) rfl rfl rfl rfl Ev.move ?_
          refine Any.gy 14 rfl (by kernel_rfl) (by kernel_rfl) (by kernel_rfl) rfl rfl rfl rfl Ev.move ?_
          refine Any.gy 15 rfl (by kernel_rfl) (by kernel_rfl) (by kernel_rfl) rfl rfl rfl rfl Ev.ne ?_
          refine Any.p 16 rfl (by kernel_rfl) (by kernel_rfl) (by kernel_rfl) rfl Ev.pickF ?_
          refine Any.p 17 rfl (by kernel_rfl) (by kernel_rfl) (by kernel_rfl) rfl Ev.move ?_
          refine Any.split (d := 101) (k := ?_)
          rintro (_|_) h101
          · try simp only [decide_eq_true_eq, decide_eq_false_iff_not] at h101
            refine Any.gy 18 rfl (by kernel_rfl) (by kernel_rfl) (by kernel_rfl) rfl rfl rfl rfl Ev.move ?_
            refine Any.gy 19 rfl (by kernel_rfl) (by kernel_rfl) (by kernel_rfl) rfl rfl rfl rfl Ev.move ?_
            refine Any.gy 20 rfl (by kernel_rfl) (by kernel_rfl) (by kernel_rfl) rfl rfl rfl rfl (Ev.neB bl.bool) ?_
            refine Any.p 21 rfl (by kernel_rfl) (by kernel_rfl) (by kernel_rfl) rfl Ev.pickF ?_
            refine Any.p 22 rfl (by kernel_rfl) (by kernel_rfl) (by kernel_rfl) rfl Ev.move ?_
            refine Any.split (d := 106) (k := ?_)
            rintro (_|_) h106
            · try simp only [decide_eq_true_eq, decide_eq_false_iff_not] at h106
              refine Any.gy 23 rfl (by kernel_rfl) (by kernel_rfl) (by kernel_rfl) rfl rfl rfl rfl Ev.move ?_
              refine Any.callgy 24 rfl (by kernel_rfl) (by kernel_rfl) (by kernel_rfl) rfl rfl rfl rfl (fun w hw => atTurnover (l := tradesF es) (by repeat (first | exact At.z | apply At.s)) (by repeat (first | exact At.z | apply At.s)) (by omega) hTq hw) ?_
              refine Any.callgy 25 rfl (by kernel_rfl) (by kernel_rfl) (by kernel_rfl) rfl rfl rfl rfl (fun w hw => moneyWords) ?_
              refine Any.gy 26 rfl (by kernel_rfl) (by kernel_rfl) (by kernel_rfl) rfl rfl rfl rfl Ev.move ?_
              refine Any.callgy 27 rfl (by kernel_rfl) (by kernel_rfl) (by kernel_rfl) rfl rfl rfl rfl (fun w hw => atTurnover (l := tradesF es) (by repeat (first | exact At.z | apply At.s)) (by repeat (first | exact At.z | apply At.s)) (by omega) hTq hw) ?_
              refine Any.callgy 28 rfl (by kernel_rfl) (by kernel_rfl) (by kernel_rfl) rfl rfl rfl rfl (fun w hw => moneyWords) ?_
              refine Any.gy 29 rfl (by kernel_rfl) (by kernel_rfl) (by kernel_rfl) rfl rfl rfl rfl (Ev.as (v' := .bool false) (by simp [wordsV, eqL, eqV]) (Ev.neAg (xs := wordsV (turnF (tradesF es))) (ys := wordsV (turnF (tradesF es))) so.a2_uint64 ag.a2_uint64 gd.a2_uint64)) ?_
              refine Any.p 30 rfl (by kernel_rfl) (by kernel_rfl) (by kernel_rfl) rfl Ev.pickF ?_
              refine Any.done (by kernel_rfl) ?_
              first | refine JC.c (ht := fun c114 => ?_) (hf := fun c114 => ?_) | refine JC.cb (ht := fun c114 => ?_) (hf := fun c114 => ?_)
              · -- then_t114
                cases c114
              · -- else_t114
                refine JC.skip ?_
                refine JC.rs ?_
                refine Seq.p rfl (Ev.buildN [_, _, _, _, _, _] pl.api_Bar z.api_Bar) ?_
                refine Seq.alloc (cs := [_, _, _, _, _, _]) (hz := z.api_Bar) (k := ?_); intro b15
                refine Seq.storeN [_, _, _, _, _, _] sz.api_Bar (k := ?_)
                refine Seq.nil ?_
                refine JC.seq ?_
                refine JC.rs ?_
                refine Seq.p rfl Ev.assign ?_
                refine Seq.nil ?_
                refine JC.blk ?_
                have hkp : 0 < each.toNat := by omega
                have hBn := bars_n hkp _ (tradesF es) (Nat.le_refl _)
                have hSB := sum_bars hkp (tradesF es)
                rw [← hB] at hBn hSB
                have hSn : (sumF B).n = (tradesF es).length := by rw [hSB, barF_n]
                refine JC.loop (α := Nat) (I := fun i e1 H1 => Has [6, 16, 116, 117, 118, 119, 120, 121, 122, 123, 124, 125, 126, 127, 128, 129, 130, 131, 132, 133, 134, 135, 136, 137, 138, 139, 140, 141, 142, 143, 144, 145, 146, 147, 148, 149, 150, 151, 152, 153, 154, 155, 156, 157, 158, 159, 160, 161, 162, 163, 164, 165, 166, 167, 168, 169, 170, 171, 172, 173, 174, 175, 176, 177, 178, 179, 180, 181, 182, 183, 184, 185, 186, 187, 188, 189, 190, 191, 192, 193, 194, 195, 196, 197, 198, 199, 200, 201, 202, 203, 204, 205, 206, 207, 208, 209] [(16, .int .i64 (i : Int))] _ e1 ∧ H1 = [.box b15 30 (sumF (B.take i)).enc, _, .box b9 30 (barF (tradesF es)).enc, .own 30 6 (.slice A73 B.length c73) B.length (B.flatMap Bar.enc), _, _, _, _, _, _, _] ∧ i ≤ B.length) (μ := fun i => B.length - i) 0 ⟨Has.mk Off.refl (allLook_cons (by repeat (first | exact Look.here | apply Look.there (hne := rfl) | exact Look.const | apply Look.mix rfl | exact Look.arg0 | apply Look.args | exact Look.func)) allLook_nil), by rw [List.take_zero]; rfl, by omega⟩ ?_
                rintro i _ _ ⟨⟨u, rfl⟩, rfl, hi⟩; dsimp only [setL]
                refine JC.seq ?_
                refine JC.rs ?_
                refine Seq.p rfl Ev.move ?_
                refine Seq.p rfl Ev.move ?_
                refine Seq.p rfl (Ev.lenSl sl.sl_api_Bar (hr := (RAt.own (enc := Bar.enc) (v := .slice A73 B.length c73) (xs := B) (hs := by omega)))) ?_
                refine Seq.p rfl Ev.lt ?_
                refine Seq.nil ?_
                first | refine JC.c (ht := fun c119 => ?_) (hf := fun c119 => ?_) | refine JC.cb (ht := fun c119 => ?_) (hf := fun c119 => ?_)
                · -- then_t119
                  have hi2 : i < B.length := by omega
                  have hn := hBn i hi2
                  have hST : i ≠ 0 → sumF (B.take (i + 1)) = mergeF (sumF (B.take i)) B[i]! := fun h => sumF_take hi2 (by omega)
                  have hSl := sumF_n_le (l := B) (i := i + 1) (by omega) (by omega)
                  have hS1 : i = 0 → sumF (B.take (i + 1)) = B[0]! := fun h => by rw [h]; exact sumF_one (by omega)
                  obtain ⟨S, hS⟩ : ∃ S, S = sumF (B.take i) := ⟨_, rfl⟩
                  rw [← hS] at hST ⊢
                  refine JC.skip ?_
                  refine JC.seq ?_
                  refine JC.blk ?_
                  refine JC.seq ?_
                  refine JC.rs ?_
                  refine Seq.p rfl Ev.move ?_
                  refine Seq.p rfl Ev.move ?_
                  refine Seq.p rfl (Ev.iaN sl.sl_api_Bar (hr := (RAt.own (enc := Bar.enc) (v := .slice A73 B.length c73) (xs := B) (hs := by omega)))) ?_
                  refine Seq.p rfl (Ev.fa fd.api_Bar_5) ?_
                  refine Seq.p rfl (Ev.ldE sc.int (hr := (RAt.own (enc := Bar.enc) (v := .slice A73 B.length c73) (xs := B) (hs := by omega)))) ?_
                  refine Seq.p rfl Ev.lt ?_
                  refine Seq.p rfl Ev.move ?_
                  refine Seq.orG (D := [128, 129, 130, 131, 132, 133, 134, 135, 136]) (d := 128) (t := 136) (k := 8) (hn := fun h128 => ?_) (hx := ?_)
                  · repeat (first | refine Seq.gn rfl rfl rfl rfl ?_ | refine Seq.gu rfl rfl rfl ?_)
                    refine Seq.p rfl Ev.pickT ?_
                    exact Seq.nil ⟨rfl, (by repeat (first | with_reducible exact Off.refl | refine Off.upd ?_ rfl | exact Off.mix | refine Off.mix2 ?_ rfl)), Look.here⟩
                  apply Exists.intro
                  refine ⟨fun h128 => ?_, fun u136 => ?_⟩
                  · try simp only [decide_eq_true_eq, decide_eq_false_iff_not, Bool.and_eq_true, Bool.or_eq_true, Bool.not_eq_true', Bool.not_eq_false', Bool.or_eq_false_iff, Bool.and_eq_false_imp] at h128
                    refine Seq.gy rfl rfl rfl ?_
                    refine Seq.p rfl Ev.move ?_
                    refine Seq.gy rfl rfl rfl ?_
                    refine Seq.p rfl Ev.move ?_
                    refine Seq.gy rfl rfl rfl ?_
                    refine Seq.p rfl (Ev.iaN sl.sl_api_Bar (hr := (RAt.own (enc := Bar.enc) (v := .slice A73 B.length c73) (xs := B) (hs := by omega)))) ?_
                    refine Seq.gy rfl rfl rfl ?_
                    refine Seq.p rfl (Ev.fa fd.api_Bar_5) ?_
                    refine Seq.gy rfl rfl rfl ?_
                    refine Seq.p rfl (Ev.ldE sc.int (hr := (RAt.own (enc := Bar.enc) (v := .slice A73 B.length c73) (xs := B) (hs := by omega)))) ?_
                    refine Seq.gy rfl rfl rfl ?_
                    refine Seq.p rfl Ev.move ?_
                    refine Seq.gy rfl rfl rfl ?_
                    refine Seq.p rfl Ev.gt ?_
                    refine Seq.p rfl Ev.pickF ?_
                    exact Seq.nil ⟨rfl, (by repeat (first | with_reducible exact Off.refl | refine Off.upd ?_ rfl | exact Off.mix | refine Off.mix2 ?_ rfl)), Look.here⟩
                  refine Seq.p rfl Ev.move ?_
                  refine Seq.orG (D := [137, 138, 139, 140, 141, 142, 143, 144, 145, 146, 147, 148, 149, 150, 151, 152]) (d := 137) (t := 152) (k := 15) (hn := fun h137 => ?_) (hx := ?_)
                  · repeat (first | refine Seq.gn rfl rfl rfl rfl ?_ | refine Seq.gu rfl rfl rfl ?_)
                    refine Seq.p rfl Ev.pickT ?_
                    exact Seq.nil ⟨rfl, (by repeat (first | with_reducible exact Off.refl | refine Off.upd ?_ rfl | exact Off.mix | refine Off.mix2 ?_ rfl)), Look.here⟩
                  apply Exists.intro
                  refine ⟨fun h137 => ?_, fun u152 => ?_⟩
                  · try simp only [decide_eq_true_eq, decide_eq_false_iff_not, Bool.and_eq_true, Bool.or_eq_true, Bool.not_eq_true', Bool.not_eq_false', Bool.or_eq_false_iff, Bool.and_eq_false_imp] at h137
                    refine Seq.gy rfl rfl rfl ?_
                    refine Seq.p rfl Ev.move ?_
                    refine Seq.gy rfl rfl rfl ?_
                    refine Seq.p rfl (by first | exact Ev.inc | exact Ev.add) ?_
                    refine Seq.gy rfl rfl rfl ?_
                    refine Seq.p rfl Ev.move ?_
                    refine Seq.gy rfl rfl rfl ?_
                    refine Seq.p rfl (Ev.lenSl sl.sl_api_Bar (hr := (RAt.own (enc := Bar.enc) (v := .slice A73 B.length c73) (xs := B) (hs := by omega)))) ?_
                    refine Seq.gy rfl rfl rfl ?_
                    refine Seq.p rfl Ev.lt ?_
                    refine Seq.gy rfl rfl rfl ?_
                    refine Seq.p rfl Ev.move ?_
                    refine Seq.andG (D := [143, 144, 145, 146, 147, 148, 149, 150, 151]) (d := 143) (t := 151) (k := 8) (hn := fun h143 => ?_) (hx := ?_)
                    · repeat (first | refine Seq.gn rfl rfl rfl rfl ?_ | refine Seq.gu rfl rfl rfl ?_)
                      refine Seq.gy rfl rfl rfl ?_
                      refine Seq.p rfl Ev.pickF ?_
                      exact Seq.nil ⟨rfl, (by repeat (first | with_reducible exact Off.refl | refine Off.upd ?_ rfl | exact Off.mix | refine Off.mix2 ?_ rfl)), Look.here⟩
                    apply Exists.intro
                    refine ⟨fun h143 => ?_, fun u151 => ?_⟩
                    · try simp only [decide_eq_true_eq, decide_eq_false_iff_not, Bool.and_eq_true, Bool.or_eq_true, Bool.not_eq_true', Bool.not_eq_false', Bool.or_eq_false_iff, Bool.and_eq_false_imp] at h143
                      refine Seq.gy rfl rfl rfl ?_
                      refine Seq.p rfl Ev.move ?_
                      refine Seq.gy rfl rfl rfl ?_
                      refine Seq.p rfl Ev.move ?_
                      refine Seq.gy rfl rfl rfl ?_
                      refine Seq.p rfl (Ev.iaN sl.sl_api_Bar (hr := (RAt.own (enc := Bar.enc) (v := .slice A73 B.length c73) (xs := B) (hs := by omega)))) ?_
                      refine Seq.gy rfl rfl rfl ?_
                      refine Seq.p rfl (Ev.fa fd.api_Bar_5) ?_
                      refine Seq.gy rfl rfl rfl ?_
                      refine Seq.p rfl (Ev.ldE sc.int (hr := (RAt.own (enc := Bar.enc) (v := .slice A73 B.length c73) (xs := B) (hs := by omega)))) ?_
                      refine Seq.gy rfl rfl rfl ?_
                      refine Seq.p rfl Ev.move ?_
                      refine Seq.gy rfl rfl rfl ?_
                      refine Seq.p rfl Ev.ne ?_
                      refine Seq.gy rfl rfl rfl ?_
                      refine Seq.p rfl Ev.pickT ?_
                      exact Seq.nil ⟨rfl, (by repeat (first | with_reducible exact Off.refl | refine Off.upd ?_ rfl | exact Off.mix | refine Off.mix2 ?_ rfl)), Look.here⟩
                    refine Seq.p rfl Ev.pickF ?_
                    exact Seq.nil ⟨rfl, (by repeat (first | with_reducible exact Off.refl | refine Off.upd ?_ rfl | exact Off.mix | refine Off.mix2 ?_ rfl)), Look.here⟩
                  refine Seq.nil ?_
                  first | refine JC.c (ht := fun c152 => ?_) (hf := fun c152 => ?_) | refine JC.cb (ht := fun c152 => ?_) (hf := fun c152 => ?_)
                  · -- then_t152
                    simp only [Bool.or_eq_true, Bool.and_eq_true, decide_eq_true_eq] at c152; omega
                  · -- else_t152
                    refine JC.skip ?_
                    refine JC.seq ?_
                    refine JC.rs ?_
                    refine Seq.p rfl Ev.move ?_
                    refine Seq.p rfl Ev.eq ?_
                    refine Seq.nil ?_
                    first | refine JC.c (ht := fun c154 => ?_) (hf := fun c154 => ?_) | refine JC.cb (ht := fun c154 => ?_) (hf := fun c154 => ?_)
                    · -- then_t154
                      refine JC.rs ?_
                      refine Seq.p rfl Ev.move ?_
                      refine Seq.p rfl (Ev.iaN sl.sl_api_Bar (i := 0) (hr := (RAt.own (enc := Bar.enc) (v := .slice A73 B.length c73) (xs := B) (hs := by omega))) (hi := by omega)) ?_
                      refine Seq.p rfl (Ev.ldEA ag.api_Bar (i := 0) (hr := (RAt.own (enc := Bar.enc) (v := .slice A73 B.length c73) (xs := B) (hs := by omega))) (hi := by omega)) ?_
                      refine Seq.storeN [_, _, _, _, _, _] sz.api_Bar (k := ?_)
                      refine Seq.nil ?_
                      refine JC.exit ?_ -- 1
                      refine JC.reg ?_
                      refine Seq.p rfl Ev.move ?_
                      refine Seq.p rfl (by first | exact Ev.inc | exact Ev.add) ?_
                      refine Seq.p rfl Ev.assign ?_
                      refine Seq.nil ?_
                      refine ⟨i + 1, _, Part.refl _, ⟨Has.mk (by repeat (first | refine Off.upd ?_ rfl | exact Off.mix | refine Off.mix2 ?_ rfl | exact Off.refl)) (allLook_cons (by repeat (first | exact Look.here | apply Look.there (hne := rfl) | exact Look.const | apply Look.mix rfl | exact Look.arg0 | apply Look.args | exact Look.func)) allLook_nil), ?_, by omega⟩, by omega⟩
                      first | (rw [hS1 (by omega)]; rfl) | (rw [hST2, show (mergeF S B[i]!).enc = [.int .i64 S.op, .int .i64 (if S.hi < B[i]!.hi then B[i]!.hi else S.hi), .int .i64 (if B[i]!.lo < S.lo then B[i]!.lo else S.lo), .int .i64 B[i]!.cl, .int .u64 (((S.vol + B[i]!.vol) % 18446744073709551616 : Nat) : Int), .int .i64 ((S.n + B[i]!.n : Nat) : Int)] from rfl, hA1, hA2, Int.natCast_add]; rfl)
                    · -- else_t154
                      have hST2 := hST (by omega)
                      rw [hST2, hSn] at hSl
                      have hSl2 : S.n + B[i]!.n ≤ (tradesF es).length := hSl
                      refine JC.skip ?_
                      refine JC.seq ?_
                      refine JC.qs mixed (by kernel_rfl) ?_
                      refine Qui.p rfl Ev.move ?_
                      refine Qui.p rfl Ev.move ?_
                      refine Qui.p rfl (Ev.iaN sl.sl_api_Bar (hr := (RAt.own (enc := Bar.enc) (v := .slice A73 B.length c73) (xs := B) (hs := by omega)))) ?_
                      refine Qui.p rfl (Ev.fa fd.api_Bar_1) ?_
                      refine Qui.p rfl (Ev.ldE sc.int (hr := (RAt.own (enc := Bar.enc) (v := .slice A73 B.length c73) (xs := B) (hs := by omega)))) ?_
                      refine Qui.p rfl (Ev.faB fd.api_Bar_1) ?_
                      refine Qui.p rfl (Ev.ldB sc.int) ?_
                      refine Qui.p rfl Ev.gt ?_
                      refine Qui.nil ?_
                      first | refine JC.c (ht := fun c165 => ?_) (hf := fun c165 => ?_) | refine JC.cb (ht := fun c165 => ?_) (hf := fun c165 => ?_)
                      · -- then_t165
                        have hA1 : (if S.hi < B[i]!.hi then B[i]!.hi else S.hi) = B[i]!.hi := if_pos c165
                        refine JC.reg ?_
                        refine Seq.p rfl Ev.move ?_
                        refine Seq.p rfl Ev.move ?_
                        refine Seq.p rfl (Ev.iaN sl.sl_api_Bar (hr := (RAt.own (enc := Bar.enc) (v := .slice A73 B.length c73) (xs := B) (hs := by omega)))) ?_
                        refine Seq.p rfl (Ev.fa fd.api_Bar_1) ?_
                        refine Seq.p rfl (Ev.ldE sc.int (hr := (RAt.own (enc := Bar.enc) (v := .slice A73 B.length c73) (xs := B) (hs := by omega)))) ?_
                        refine Seq.p rfl (Ev.faB fd.api_Bar_1) ?_
                        refine Seq.storeN [_, _, _, _, _, _] sz.int (k := ?_)
                        refine Seq.nil ?_
                        refine JC.seq ?_
                        refine JC.qs mixed (by kernel_rfl) ?_
                        refine Qui.p rfl Ev.move ?_
                        refine Qui.p rfl Ev.move ?_
                        refine Qui.p rfl (Ev.iaN sl.sl_api_Bar (hr := (RAt.own (enc := Bar.enc) (v := .slice A73 B.length c73) (xs := B) (hs := by omega)))) ?_
                        refine Qui.p rfl (Ev.fa fd.api_Bar_2) ?_
                        refine Qui.p rfl (Ev.ldE sc.int (hr := (RAt.own (enc := Bar.enc) (v := .slice A73 B.length c73) (xs := B) (hs := by omega)))) ?_
                        refine Qui.p rfl (Ev.faB fd.api_Bar_2) ?_
                        refine Qui.p rfl (Ev.ldB sc.int) ?_
                        refine Qui.p rfl Ev.lt ?_
                        refine Qui.nil ?_
                        first | refine JC.c (ht := fun c179 => ?_) (hf := fun c179 => ?_) | refine JC.cb (ht := fun c179 => ?_) (hf := fun c179 => ?_)
                        · -- then_t179
                          have hA2 : (if B[i]!.lo < S.lo then B[i]!.lo else S.lo) = B[i]!.lo := if_pos c179
                          refine JC.reg ?_
                          refine Seq.p rfl Ev.move ?_
                          refine Seq.p rfl Ev.move ?_
                          refine Seq.p rfl (Ev.iaN sl.sl_api_Bar (hr := (RAt.own (enc := Bar.enc) (v := .slice A73 B.length c73) (xs := B) (hs := by omega)))) ?_
                          refine Seq.p rfl (Ev.fa fd.api_Bar_2) ?_
                          refine Seq.p rfl (Ev.ldE sc.int (hr := (RAt.own (enc := Bar.enc) (v := .slice A73 B.length c73) (xs := B) (hs := by omega)))) ?_
                          refine Seq.p rfl (Ev.faB fd.api_Bar_2) ?_
                          refine Seq.storeN [_, _, _, _, _, _] sz.int (k := ?_)
                          refine Seq.nil ?_
                          refine JC.rs ?_
                          refine Seq.p rfl Ev.move ?_
                          refine Seq.p rfl Ev.move ?_
                          refine Seq.p rfl (Ev.iaN sl.sl_api_Bar (hr := (RAt.own (enc := Bar.enc) (v := .slice A73 B.length c73) (xs := B) (hs := by omega)))) ?_
                          refine Seq.p rfl (Ev.fa fd.api_Bar_3) ?_
                          refine Seq.p rfl (Ev.ldE sc.int (hr := (RAt.own (enc := Bar.enc) (v := .slice A73 B.length c73) (xs := B) (hs := by omega)))) ?_
                          refine Seq.p rfl (Ev.faB fd.api_Bar_3) ?_
                          refine Seq.storeN [_, _, _, _, _, _] sz.int (k := ?_)
                          refine Seq.nil ?_
                          refine JC.asE 0 mixed ?_
                          refine Any.p 0 rfl (by kernel_rfl) (by kernel_rfl) (by kernel_rfl) rfl (Ev.faB fd.api_Bar_4) ?_
                          refine Any.p 2 rfl (by kernel_rfl) (by kernel_rfl) (by kernel_rfl) rfl Ev.move ?_
                          refine Any.p 3 rfl (by kernel_rfl) (by kernel_rfl) (by kernel_rfl) rfl Ev.move ?_
                          refine Any.p 4 rfl (by kernel_rfl) (by kernel_rfl) (by kernel_rfl) rfl (Ev.iaN sl.sl_api_Bar (hr := (RAt.own (enc := Bar.enc) (v := .slice A73 B.length c73) (xs := B) (hs := by omega)))) ?_
                          refine Any.p 5 rfl (by kernel_rfl) (by kernel_rfl) (by kernel_rfl) rfl (Ev.fa fd.api_Bar_4) ?_
                          refine Any.p 6 rfl (by kernel_rfl) (by kernel_rfl) (by kernel_rfl) rfl (Ev.ldE sc.uint64 (hr := (RAt.own (enc := Bar.enc) (v := .slice A73 B.length c73) (xs := B) (hs := by omega)))) ?_
                          refine Any.one 1 rfl (by kernel_rfl) ?_
                          refine Seq.p rfl (Ev.ldB sc.uint64) ?_
                          refine Seq.nil ⟨(by repeat (first | exact Part.refl _ | exact Part.nil _ | apply Part.here | apply Part.skip)), ?_⟩
                          refine Any.p 7 rfl (by kernel_rfl) (by kernel_rfl) (by kernel_rfl) rfl Ev.addNM ?_
                          refine Any.p 8 rfl (by kernel_rfl) (by kernel_rfl) (by kernel_rfl) rfl (Ev.faB fd.api_Bar_4) ?_
                          refine Any.one 9 rfl (by kernel_rfl) ?_
                          refine Seq.storeN [_, _, _, _, _, _] sz.uint64 (k := ?_)
                          refine Seq.nil ⟨(by repeat (first | exact Part.refl _ | exact Part.nil _ | apply Part.here | apply Part.skip)), ?_⟩
                          refine Any.done (by kernel_rfl) ?_
                          refine JC.anyE 0 mixed ?_
                          refine Any.p 0 rfl (by kernel_rfl) (by kernel_rfl) (by kernel_rfl) rfl (Ev.faB fd.api_Bar_5) ?_
                          refine Any.p 2 rfl (by kernel_rfl) (by kernel_rfl) (by kernel_rfl) rfl Ev.move ?_
                          refine Any.p 3 rfl (by kernel_rfl) (by kernel_rfl) (by kernel_rfl) rfl Ev.move ?_
                          refine Any.p 4 rfl (by kernel_rfl) (by kernel_rfl) (by kernel_rfl) rfl (Ev.iaN sl.sl_api_Bar (hr := (RAt.own (enc := Bar.enc) (v := .slice A73 B.length c73) (xs := B) (hs := by omega)))) ?_
                          refine Any.p 5 rfl (by kernel_rfl) (by kernel_rfl) (by kernel_rfl) rfl (Ev.fa fd.api_Bar_5) ?_
                          refine Any.p 6 rfl (by kernel_rfl) (by kernel_rfl) (by kernel_rfl) rfl (Ev.ldE sc.int (hr := (RAt.own (enc := Bar.enc) (v := .slice A73 B.length c73) (xs := B) (hs := by omega)))) ?_
                          refine Any.one 1 rfl (by kernel_rfl) ?_
                          refine Seq.p rfl (Ev.ldB sc.int) ?_
                          refine Seq.nil ⟨(by repeat (first | exact Part.refl _ | exact Part.nil _ | apply Part.here | apply Part.skip)), ?_⟩
                          refine Any.p 7 rfl (by kernel_rfl) (by kernel_rfl) (by kernel_rfl) rfl Ev.add ?_
                          refine Any.p 8 rfl (by kernel_rfl) (by kernel_rfl) (by kernel_rfl) rfl (Ev.faB fd.api_Bar_5) ?_
                          refine Any.one 9 rfl (by kernel_rfl) ?_
                          refine Seq.storeN [_, _, _, _, _, _] sz.int (k := ?_)
                          refine Seq.nil ⟨(by repeat (first | exact Part.refl _ | exact Part.nil _ | apply Part.here | apply Part.skip)), ?_⟩
                          refine Any.done (by kernel_rfl) ?_
                          refine JC.reg ?_
                          refine Seq.p rfl Ev.move ?_
                          refine Seq.p rfl (by first | exact Ev.inc | exact Ev.add) ?_
                          refine Seq.p rfl Ev.assign ?_
                          refine Seq.nil ?_
                          refine ⟨i + 1, _, Part.refl _, ⟨Has.mk (by repeat (first | refine Off.upd ?_ rfl | exact Off.mix | refine Off.mix2 ?_ rfl | exact Off.refl)) (allLook_cons (by repeat (first | exact Look.here | apply Look.there (hne := rfl) | exact Look.const | apply Look.mix rfl | exact Look.arg0 | apply Look.args | exact Look.func)) allLook_nil), ?_, by omega⟩, by omega⟩
                          first | (rw [hS1 (by omega)]; rfl) | (rw [hST2, show (mergeF S B[i]!).enc = [.int .i64 S.op, .int .i64 (if S.hi < B[i]!.hi then B[i]!.hi else S.hi), .int .i64 (if B[i]!.lo < S.lo then B[i]!.lo else S.lo), .int .i64 B[i]!.cl, .int .u64 (((S.vol + B[i]!.vol) % 18446744073709551616 : Nat) : Int), .int .i64 ((S.n + B[i]!.n : Nat) : Int)] from rfl, hA1, hA2, Int.natCast_add]; rfl)
                        · -- else_t179
                          have hA2 : (if B[i]!.lo < S.lo then B[i]!.lo else S.lo) = S.lo := if_neg c179
                          refine JC.skip ?_
                          refine JC.rs ?_
                          refine Seq.p rfl Ev.move ?_
                          refine Seq.p rfl Ev.move ?_
                          refine Seq.p rfl (Ev.iaN sl.sl_api_Bar (hr := (RAt.own (enc := Bar.enc) (v := .slice A73 B.length c73) (xs := B) (hs := by omega)))) ?_
                          refine Seq.p rfl (Ev.fa fd.api_Bar_3) ?_
                          refine Seq.p rfl (Ev.ldE sc.int (hr := (RAt.own (enc := Bar.enc) (v := .slice A73 B.length c73) (xs := B) (hs := by omega)))) ?_
                          refine Seq.p rfl (Ev.faB fd.api_Bar_3) ?_
                          refine Seq.storeN [_, _, _, _, _, _] sz.int (k := ?_)
                          refine Seq.nil ?_
                          refine JC.asE 0 mixed ?_
                          refine Any.p 0 rfl (by kernel_rfl) (by kernel_rfl) (by kernel_rfl) rfl (Ev.faB fd.api_Bar_4) ?_
                          refine Any.p 2 rfl (by kernel_rfl) (by kernel_rfl) (by kernel_rfl) rfl Ev.move ?_
                          refine Any.p 3 rfl (by kernel_rfl) (by kernel_rfl) (by kernel_rfl) rfl Ev.move ?_
                          refine Any.p 4 rfl (by kernel_rfl) (by kernel_rfl) (by kernel_rfl) rfl (Ev.iaN sl.sl_api_Bar (hr := (RAt.own (enc := Bar.enc) (v := .slice A73 B.length c73) (xs := B) (hs := by omega)))) ?_
                          refine Any.p 5 rfl (by kernel_rfl) (by kernel_rfl) (by kernel_rfl) rfl (Ev.fa fd.api_Bar_4) ?_
                          refine Any.p 6 rfl (by kernel_rfl) (by kernel_rfl) (by kernel_rfl) rfl (Ev.ldE sc.uint64 (hr := (RAt.own (enc := Bar.enc) (v := .slice A73 B.length c73) (xs := B) (hs := by omega)))) ?_
                          refine Any.one 1 rfl (by kernel_rfl) ?_
                          refine Seq.p rfl (Ev.ldB sc.uint64) ?_
                          refine Seq.nil ⟨(by repeat (first | exact Part.refl _ | exact Part.nil _ | apply Part.here | apply Part.skip)), ?_⟩
                          refine Any.p 7 rfl (by kernel_rfl) (by kernel_rfl) (by kernel_rfl) rfl Ev.addNM ?_
                          refine Any.p 8 rfl (by kernel_rfl) (by kernel_rfl) (by kernel_rfl) rfl (Ev.faB fd.api_Bar_4) ?_
                          refine Any.one 9 rfl (by kernel_rfl) ?_
                          refine Seq.storeN [_, _, _, _, _, _] sz.uint64 (k := ?_)
                          refine Seq.nil ⟨(by repeat (first | exact Part.refl _ | exact Part.nil _ | apply Part.here | apply Part.skip)), ?_⟩
                          refine Any.done (by kernel_rfl) ?_
                          refine JC.anyE 0 mixed ?_
                          refine Any.p 0 rfl (by kernel_rfl) (by kernel_rfl) (by kernel_rfl) rfl (Ev.faB fd.api_Bar_5) ?_
                          refine Any.p 2 rfl (by kernel_rfl) (by kernel_rfl) (by kernel_rfl) rfl Ev.move ?_
                          refine Any.p 3 rfl (by kernel_rfl) (by kernel_rfl) (by kernel_rfl) rfl Ev.move ?_
                          refine Any.p 4 rfl (by kernel_rfl) (by kernel_rfl) (by kernel_rfl) rfl (Ev.iaN sl.sl_api_Bar (hr := (RAt.own (enc := Bar.enc) (v := .slice A73 B.length c73) (xs := B) (hs := by omega)))) ?_
                          refine Any.p 5 rfl (by kernel_rfl) (by kernel_rfl) (by kernel_rfl) rfl (Ev.fa fd.api_Bar_5) ?_
                          refine Any.p 6 rfl (by kernel_rfl) (by kernel_rfl) (by kernel_rfl) rfl (Ev.ldE sc.int (hr := (RAt.own (enc := Bar.enc) (v := .slice A73 B.length c73) (xs := B) (hs := by omega)))) ?_
                          refine Any.one 1 rfl (by kernel_rfl) ?_
                          refine Seq.p rfl (Ev.ldB sc.int) ?_
                          refine Seq.nil ⟨(by repeat (first | exact Part.refl _ | exact Part.nil _ | apply Part.here | apply Part.skip)), ?_⟩
                          refine Any.p 7 rfl (by kernel_rfl) (by kernel_rfl) (by kernel_rfl) rfl Ev.add ?_
                          refine Any.p 8 rfl (by kernel_rfl) (by kernel_rfl) (by kernel_rfl) rfl (Ev.faB fd.api_Bar_5) ?_
                          refine Any.one 9 rfl (by kernel_rfl) ?_
                          refine Seq.storeN [_, _, _, _, _, _] sz.int (k := ?_)
                          refine Seq.nil ⟨(by repeat (first | exact Part.refl _ | exact Part.nil _ | apply Part.here | apply Part.skip)), ?_⟩
                          refine Any.done (by kernel_rfl) ?_
                          refine JC.reg ?_
                          refine Seq.p rfl Ev.move ?_
                          refine Seq.p rfl (by first | exact Ev.inc | exact Ev.add) ?_
                          refine Seq.p rfl Ev.assign ?_
                          refine Seq.nil ?_
                          refine ⟨i + 1, _, Part.refl _, ⟨Has.mk (by repeat (first | refine Off.upd ?_ rfl | exact Off.mix | refine Off.mix2 ?_ rfl | exact Off.refl)) (allLook_cons (by repeat (first | exact Look.here | apply Look.there (hne := rfl) | exact Look.const | apply Look.mix rfl | exact Look.arg0 | apply Look.args | exact Look.func)) allLook_nil), ?_, by omega⟩, by omega⟩
                          first | (rw [hS1 (by omega)]; rfl) | (rw [hST2, show (mergeF S B[i]!).enc = [.int .i64 S.op, .int .i64 (if S.hi < B[i]!.hi then B[i]!.hi else S.hi), .int .i64 (if B[i]!.lo < S.lo then B[i]!.lo else S.lo), .int .i64 B[i]!.cl, .int .u64 (((S.vol + B[i]!.vol) % 18446744073709551616 : Nat) : Int), .int .i64 ((S.n + B[i]!.n : Nat) : Int)] from rfl, hA1, hA2, Int.natCast_add]; rfl)
                      · -- else_t165
                        have hA1 : (if S.hi < B[i]!.hi then B[i]!.hi else S.hi) = S.hi := if_neg c165
                        refine JC.skip ?_
                        refine JC.seq ?_
                        refine JC.qs mixed (by kernel_rfl) ?_
                        refine Qui.p rfl Ev.move ?_
                        refine Qui.p rfl Ev.move ?_
                        refine Qui.p rfl (Ev.iaN sl.sl_api_Bar (hr := (RAt.own (enc := Bar.enc) (v := .slice A73 B.length c73) (xs := B) (hs := by omega)))) ?_
                        refine Qui.p rfl (Ev.fa fd.api_Bar_2) ?_
                        refine Qui.p rfl (Ev.ldE sc.int (hr := (RAt.own (enc := Bar.enc) (v := .slice A73 B.length c73) (xs := B) (hs := by omega)))) ?_
                        refine Qui.p rfl (Ev.faB fd.api_Bar_2) ?_
                        refine Qui.p rfl (Ev.ldB sc.int) ?_
                        refine Qui.p rfl Ev.lt ?_
                        refine Qui.nil ?_
                        first | refine JC.c (ht := fun c179 => ?_) (hf := fun c179 => ?_) | refine JC.cb (ht := fun c179 => ?_) (hf := fun c179 => ?_)
                        · -- then_t179
                          have hA2 : (if B[i]!.lo < S.lo then B[i]!.lo else S.lo) = B[i]!.lo := if_pos c179
                          refine JC.reg ?_
                          refine Seq.p rfl Ev.move ?_
                          refine Seq.p rfl Ev.move ?_
                          refine Seq.p rfl (Ev.iaN sl.sl_api_Bar (hr := (RAt.own (enc := Bar.enc) (v := .slice A73 B.length c73) (xs := B) (hs := by omega)))) ?_
                          refine Seq.p rfl (Ev.fa fd.api_Bar_2) ?_
                          refine Seq.p rfl (Ev.ldE sc.int (hr := (RAt.own (enc := Bar.enc) (v := .slice A73 B.length c73) (xs := B) (hs := by omega)))) ?_
                          refine Seq.p rfl (Ev.faB fd.api_Bar_2) ?_
                          refine Seq.storeN [_, _, _, _, _, _] sz.int (k := ?_)
                          refine Seq.nil ?_
                          refine JC.rs ?_
                          refine Seq.p rfl Ev.move ?_
                          refine Seq.p rfl Ev.move ?_
                          refine Seq.p rfl (Ev.iaN sl.sl_api_Bar (hr := (RAt.own (enc := Bar.enc) (v := .slice A73 B.length c73) (xs := B) (hs := by omega)))) ?_
                          refine Seq.p rfl (Ev.fa fd.api_Bar_3) ?_
                          refine Seq.p rfl (Ev.ldE sc.int (hr := (RAt.own (enc := Bar.enc) (v := .slice A73 B.length c73) (xs := B) (hs := by omega)))) ?_
                          refine Seq.p rfl (Ev.faB fd.api_Bar_3) ?_
                          refine Seq.storeN [_, _, _, _, _, _] sz.int (k := ?_)
                          refine Seq.nil ?_
                          refine JC.asE 0 mixed ?_
                          refine Any.p 0 rfl (by kernel_rfl) (by kernel_rfl) (by kernel_rfl) rfl (Ev.faB fd.api_Bar_4) ?_
                          refine Any.p 2 rfl (by kernel_rfl) (by kernel_rfl) (by kernel_rfl) rfl Ev.move ?_
                          refine Any.p 3 rfl (by kernel_rfl) (by kernel_rfl) (by kernel_rfl) rfl Ev.move ?_
                          refine Any.p 4 rfl (by kernel_rfl) (by kernel_rfl) (by kernel_rfl) rfl (Ev.iaN sl.sl_api_Bar (hr := (RAt.own (enc := Bar.enc) (v := .slice A73 B.length c73) (xs := B) (hs := by omega)))) ?_
                          refine Any.p 5 rfl (by kernel_rfl) (by kernel_rfl) (by kernel_rfl) rfl (Ev.fa fd.api_Bar_4) ?_
                          refine Any.p 6 rfl (by kernel_rfl) (by kernel_rfl) (by kernel_rfl) rfl (Ev.ldE sc.uint64 (hr := (RAt.own (enc := Bar.enc) (v := .slice A73 B.length c73) (xs := B) (hs := by omega)))) ?_
                          refine Any.one 1 rfl (by kernel_rfl) ?_
                          refine Seq.p rfl (Ev.ldB sc.uint64) ?_
                          refine Seq.nil ⟨(by repeat (first | exact Part.refl _ | exact Part.nil _ | apply Part.here | apply Part.skip)), ?_⟩
                          refine Any.p 7 rfl (by kernel_rfl) (by kernel_rfl) (by kernel_rfl) rfl Ev.addNM ?_
                          refine Any.p 8 rfl (by kernel_rfl) (by kernel_rfl) (by kernel_rfl) rfl (Ev.faB fd.api_Bar_4) ?_
                          refine Any.one 9 rfl (by kernel_rfl) ?_
                          refine Seq.storeN [_, _, _, _, _, _] sz.uint64 (k := ?_)
                          refine Seq.nil ⟨(by repeat (first | exact Part.refl _ | exact Part.nil _ | apply Part.here | apply Part.skip)), ?_⟩
                          refine Any.done (by kernel_rfl) ?_
                          refine JC.anyE 0 mixed ?_
                          refine Any.p 0 rfl (by kernel_rfl) (by kernel_rfl) (by kernel_rfl) rfl (Ev.faB fd.api_Bar_5) ?_
                          refine Any.p 2 rfl (by kernel_rfl) (by kernel_rfl) (by kernel_rfl) rfl Ev.move ?_
                          refine Any.p 3 rfl (by kernel_rfl) (by kernel_rfl) (by kernel_rfl) rfl Ev.move ?_
                          refine Any.p 4 rfl (by kernel_rfl) (by kernel_rfl) (by kernel_rfl) rfl (Ev.iaN sl.sl_api_Bar (hr := (RAt.own (enc := Bar.enc) (v := .slice A73 B.length c73) (xs := B) (hs := by omega)))) ?_
                          refine Any.p 5 rfl (by kernel_rfl) (by kernel_rfl) (by kernel_rfl) rfl (Ev.fa fd.api_Bar_5) ?_
                          refine Any.p 6 rfl (by kernel_rfl) (by kernel_rfl) (by kernel_rfl) rfl (Ev.ldE sc.int (hr := (RAt.own (enc := Bar.enc) (v := .slice A73 B.length c73) (xs := B) (hs := by omega)))) ?_
                          refine Any.one 1 rfl (by kernel_rfl) ?_
                          refine Seq.p rfl (Ev.ldB sc.int) ?_
                          refine Seq.nil ⟨(by repeat (first | exact Part.refl _ | exact Part.nil _ | apply Part.here | apply Part.skip)), ?_⟩
                          refine Any.p 7 rfl (by kernel_rfl) (by kernel_rfl) (by kernel_rfl) rfl Ev.add ?_
                          refine Any.p 8 rfl (by kernel_rfl) (by kernel_rfl) (by kernel_rfl) rfl (Ev.faB fd.api_Bar_5) ?_
                          refine Any.one 9 rfl (by kernel_rfl) ?_
                          refine Seq.storeN [_, _, _, _, _, _] sz.int (k := ?_)
                          refine Seq.nil ⟨(by repeat (first | exact Part.refl _ | exact Part.nil _ | apply Part.here | apply Part.skip)), ?_⟩
                          refine Any.done (by kernel_rfl) ?_
                          refine JC.reg ?_
                          refine Seq.p rfl Ev.move ?_
                          refine Seq.p rfl (by first | exact Ev.inc | exact Ev.add) ?_
                          refine Seq.p rfl Ev.assign ?_
                          refine Seq.nil ?_
                          refine ⟨i + 1, _, Part.refl _, ⟨Has.mk (by repeat (first | refine Off.upd ?_ rfl | exact Off.mix | refine Off.mix2 ?_ rfl | exact Off.refl)) (allLook_cons (by repeat (first | exact Look.here | apply Look.there (hne := rfl) | exact Look.const | apply Look.mix rfl | exact Look.arg0 | apply Look.args | exact Look.func)) allLook_nil), ?_, by omega⟩, by omega⟩
                          first | (rw [hS1 (by omega)]; rfl) | (rw [hST2, show (mergeF S B[i]!).enc = [.int .i64 S.op, .int .i64 (if S.hi < B[i]!.hi then B[i]!.hi else S.hi), .int .i64 (if B[i]!.lo < S.lo then B[i]!.lo else S.lo), .int .i64 B[i]!.cl, .int .u64 (((S.vol + B[i]!.vol) % 18446744073709551616 : Nat) : Int), .int .i64 ((S.n + B[i]!.n : Nat) : Int)] from rfl, hA1, hA2, Int.natCast_add]; rfl)
                        · -- else_t179
                          have hA2 : (if B[i]!.lo < S.lo then B[i]!.lo else S.lo) = S.lo := if_neg c179
                          refine JC.skip ?_
                          refine JC.rs ?_
                          refine Seq.p rfl Ev.move ?_
                          refine Seq.p rfl Ev.move ?_
                          refine Seq.p rfl (Ev.iaN sl.sl_api_Bar (hr := (RAt.own (enc := Bar.enc) (v := .slice A73 B.length c73) (xs := B) (hs := by omega)))) ?_
                          refine Seq.p rfl (Ev.fa fd.api_Bar_3) ?_
                          refine Seq.p rfl (Ev.ldE sc.int (hr := (RAt.own (enc := Bar.enc) (v := .slice A73 B.length c73) (xs := B) (hs := by omega)))) ?_
                          refine Seq.p rfl (Ev.faB fd.api_Bar_3) ?_
                          refine Seq.storeN [_, _, _, _, _, _] sz.int (k := ?_)
                          refine Seq.nil ?_
                          refine JC.asE 0 mixed ?_
                          refine Any.p 0 rfl (by kernel_rfl) (by kernel_rfl) (by kernel_rfl) rfl (Ev.faB fd.api_Bar_4) ?_
                          refine Any.p 2 rfl (by kernel_rfl) (by kernel_rfl) (by kernel_rfl) rfl Ev.move ?_
                          refine Any.p 3 rfl (by kernel_rfl) (by kernel_rfl) (by kernel_rfl) rfl Ev.move ?_
                          refine Any.p 4 rfl (by kernel_rfl) (by kernel_rfl) (by kernel_rfl) rfl (Ev.iaN sl.sl_api_Bar (hr := (RAt.own (enc := Bar.enc) (v := .slice A73 B.length c73) (xs := B) (hs := by omega)))) ?_
                          refine Any.p 5 rfl (by kernel_rfl) (by kernel_rfl) (by kernel_rfl) rfl (Ev.fa fd.api_Bar_4) ?_
                          refine Any.p 6 rfl (by kernel_rfl) (by kernel_rfl) (by kernel_rfl) rfl (Ev.ldE sc.uint64 (hr := (RAt.own (enc := Bar.enc) (v := .slice A73 B.length c73) (xs := B) (hs := by omega)))) ?_
                          refine Any.one 1 rfl (by kernel_rfl) ?_
                          refine Seq.p rfl (Ev.ldB sc.uint64) ?_
                          refine Seq.nil ⟨(by repeat (first | exact Part.refl _ | exact Part.nil _ | apply Part.here | apply Part.skip)), ?_⟩
                          refine Any.p 7 rfl (by kernel_rfl) (by kernel_rfl) (by kernel_rfl) rfl Ev.addNM ?_
                          refine Any.p 8 rfl (by kernel_rfl) (by kernel_rfl) (by kernel_rfl) rfl (Ev.faB fd.api_Bar_4) ?_
                          refine Any.one 9 rfl (by kernel_rfl) ?_
                          refine Seq.storeN [_, _, _, _, _, _] sz.uint64 (k := ?_)
                          refine Seq.nil ⟨(by repeat (first | exact Part.refl _ | exact Part.nil _ | apply Part.here | apply Part.skip)), ?_⟩
                          refine Any.done (by kernel_rfl) ?_
                          refine JC.anyE 0 mixed ?_
                          refine Any.p 0 rfl (by kernel_rfl) (by kernel_rfl) (by kernel_rfl) rfl (Ev.faB fd.api_Bar_5) ?_
                          refine Any.p 2 rfl (by kernel_rfl) (by kernel_rfl) (by kernel_rfl) rfl Ev.move ?_
                          refine Any.p 3 rfl (by kernel_rfl) (by kernel_rfl) (by kernel_rfl) rfl Ev.move ?_
                          refine Any.p 4 rfl (by kernel_rfl) (by kernel_rfl) (by kernel_rfl) rfl (Ev.iaN sl.sl_api_Bar (hr := (RAt.own (enc := Bar.enc) (v := .slice A73 B.length c73) (xs := B) (hs := by omega)))) ?_
                          refine Any.p 5 rfl (by kernel_rfl) (by kernel_rfl) (by kernel_rfl) rfl (Ev.fa fd.api_Bar_5) ?_
                          refine Any.p 6 rfl (by kernel_rfl) (by kernel_rfl) (by kernel_rfl) rfl (Ev.ldE sc.int (hr := (RAt.own (enc := Bar.enc) (v := .slice A73 B.length c73) (xs := B) (hs := by omega)))) ?_
                          refine Any.one 1 rfl (by kernel_rfl) ?_
                          refine Seq.p rfl (Ev.ldB sc.int) ?_
                          refine Seq.nil ⟨(by repeat (first | exact Part.refl _ | exact Part.nil _ | apply Part.here | apply Part.skip)), ?_⟩
                          refine Any.p 7 rfl (by kernel_rfl) (by kernel_rfl) (by kernel_rfl) rfl Ev.add ?_
                          refine Any.p 8 rfl (by kernel_rfl) (by kernel_rfl) (by kernel_rfl) rfl (Ev.faB fd.api_Bar_5) ?_
                          refine Any.one 9 rfl (by kernel_rfl) ?_
                          refine Seq.storeN [_, _, _, _, _, _] sz.int (k := ?_)
                          refine Seq.nil ⟨(by repeat (first | exact Part.refl _ | exact Part.nil _ | apply Part.here | apply Part.skip)), ?_⟩
                          refine Any.done (by kernel_rfl) ?_
                          refine JC.reg ?_
                          refine Seq.p rfl Ev.move ?_
                          refine Seq.p rfl (by first | exact Ev.inc | exact Ev.add) ?_
                          refine Seq.p rfl Ev.assign ?_
                          refine Seq.nil ?_
                          refine ⟨i + 1, _, Part.refl _, ⟨Has.mk (by repeat (first | refine Off.upd ?_ rfl | exact Off.mix | refine Off.mix2 ?_ rfl | exact Off.refl)) (allLook_cons (by repeat (first | exact Look.here | apply Look.there (hne := rfl) | exact Look.const | apply Look.mix rfl | exact Look.arg0 | apply Look.args | exact Look.func)) allLook_nil), ?_, by omega⟩, by omega⟩
                          first | (rw [hS1 (by omega)]; rfl) | (rw [hST2, show (mergeF S B[i]!).enc = [.int .i64 S.op, .int .i64 (if S.hi < B[i]!.hi then B[i]!.hi else S.hi), .int .i64 (if B[i]!.lo < S.lo then B[i]!.lo else S.lo), .int .i64 B[i]!.cl, .int .u64 (((S.vol + B[i]!.vol) % 18446744073709551616 : Nat) : Int), .int .i64 ((S.n + B[i]!.n : Nat) : Int)] from rfl, hA1, hA2, Int.natCast_add]; rfl)
                · -- else_t119
                  obtain rfl : i = B.length := by omega
                  rw [List.take_length, hSB]
                  refine JC.exit ?_ -- 0
                  refine JC.seq ?_
                  refine JC.rs ?_
                  refine Seq.p rfl (Ev.ldBA (cs := (barF (tradesF es)).enc) ag.api_Bar) ?_
                  refine Seq.p rfl (Ev.ldBA (cs := (barF (tradesF es)).enc) ag.api_Bar) ?_
                  refine Seq.p rfl (Ev.as (v' := .bool false) (by rw [Bar.eqL_enc]; simp) (Ev.neAg (xs := (barF (tradesF es)).enc) (ys := (barF (tradesF es)).enc) so.api_Bar ag.api_Bar gd.api_Bar)) ?_
                  refine Seq.nil ?_
                  first | refine JC.c (ht := fun c212 => ?_) (hf := fun c212 => ?_) | refine JC.cb (ht := fun c212 => ?_) (hf := fun c212 => ?_)
                  · -- then_t212
                    cases c212
                  · -- else_t212
                    refine JC.skip ?_
                    refine JC.seq ?_
                    refine JC.rs ?_
                    refine Seq.p rfl Ev.move ?_
                    refine Seq.p rfl Ev.move ?_
                    refine Seq.andG (D := [214, 215, 216, 217, 218]) (d := 214) (t := 218) (k := 4) (hn := fun h214 => ?_) (hx := ?_)
                    · repeat (first | refine Seq.gn rfl rfl rfl rfl ?_ | refine Seq.gu rfl rfl rfl ?_)
                      refine Seq.p rfl Ev.pickF ?_
                      exact Seq.nil ⟨rfl, (by repeat (first | with_reducible exact Off.refl | refine Off.upd ?_ rfl | exact Off.mix | refine Off.mix2 ?_ rfl)), Look.here⟩
                    apply Exists.intro
                    refine ⟨fun h214 => ?_, fun u218 => ?_⟩
                    · try simp only [decide_eq_true_eq, decide_eq_false_iff_not, Bool.and_eq_true, Bool.or_eq_true, Bool.not_eq_true', Bool.not_eq_false', Bool.or_eq_false_iff, Bool.and_eq_false_imp] at h214
                      refine Seq.gy rfl rfl rfl ?_
                      refine Seq.p rfl (Ev.faB fd.api_Bar_2) ?_
                      refine Seq.gy rfl rfl rfl ?_
                      refine Seq.p rfl (Ev.ldB sc.int) ?_
                      refine Seq.gy rfl rfl rfl ?_
                      refine Seq.p rfl Ev.ge ?_
                      refine Seq.p rfl Ev.pickT ?_
                      exact Seq.nil ⟨rfl, (by repeat (first | with_reducible exact Off.refl | refine Off.upd ?_ rfl | exact Off.mix | refine Off.mix2 ?_ rfl)), Look.here⟩
                    refine Seq.p rfl Ev.move ?_
                    refine Seq.andG (D := [219, 220, 221, 222, 223]) (d := 219) (t := 223) (k := 4) (hn := fun h219 => ?_) (hx := ?_)
                    · repeat (first | refine Seq.gn rfl rfl rfl rfl ?_ | refine Seq.gu rfl rfl rfl ?_)
                      refine Seq.p rfl Ev.pickF ?_
                      exact Seq.nil ⟨rfl, (by repeat (first | with_reducible exact Off.refl | refine Off.upd ?_ rfl | exact Off.mix | refine Off.mix2 ?_ rfl)), Look.here⟩
                    apply Exists.intro
                    refine ⟨fun h219 => ?_, fun u223 => ?_⟩
                    · try simp only [decide_eq_true_eq, decide_eq_false_iff_not, Bool.and_eq_true, Bool.or_eq_true, Bool.not_eq_true', Bool.not_eq_false', Bool.or_eq_false_iff, Bool.and_eq_false_imp] at h219
                      refine Seq.gy rfl rfl rfl ?_
                      refine Seq.p rfl (Ev.faB fd.api_Bar_1) ?_
                      refine Seq.gy rfl rfl rfl ?_
                      refine Seq.p rfl (Ev.ldB sc.int) ?_
                      refine Seq.gy rfl rfl rfl ?_
                      refine Seq.p rfl Ev.lt ?_
                      refine Seq.p rfl Ev.pickT ?_
                      exact Seq.nil ⟨rfl, (by repeat (first | with_reducible exact Off.refl | refine Off.upd ?_ rfl | exact Off.mix | refine Off.mix2 ?_ rfl)), Look.here⟩
                    refine Seq.nil ?_
                    first | refine JC.c (ht := fun c223 => ?_) (hf := fun c223 => ?_) | refine JC.cb (ht := fun c223 => ?_) (hf := fun c223 => ?_)
                    · -- then_t223
                      simp only [Bool.and_eq_true, decide_eq_true_eq] at c223
                      have hmb := mean_between c223.1.1 c223.1.2 c223.2
                      refine JC.rs ?_
                      refine Seq.p rfl Ev.move ?_
                      refine Seq.p rfl (Ev.faB fd.api_Bar_2) ?_
                      refine Seq.p rfl (Ev.ldB sc.int) ?_
                      refine Seq.p rfl (Ev.convU64W it.int it.uint64) ?_
                      refine Seq.p rfl Ev.mulU ?_
                      refine Seq.p rfl Ev.ge ?_
                      refine Seq.p rfl Ev.move ?_
                      refine Seq.andG (D := [230, 231, 232, 233, 234, 235, 236, 237]) (d := 230) (t := 237) (k := 7) (hn := fun h230 => ?_) (hx := ?_)
                      · repeat (first | refine Seq.gn rfl rfl rfl rfl ?_ | refine Seq.gu rfl rfl rfl ?_)
                        refine Seq.p rfl Ev.pickF ?_
                        exact Seq.nil ⟨rfl, (by repeat (first | with_reducible exact Off.refl | refine Off.upd ?_ rfl | exact Off.mix | refine Off.mix2 ?_ rfl)), Look.here⟩
                      apply Exists.intro
                      refine ⟨fun h230 => ?_, fun u237 => ?_⟩
                      · try simp only [decide_eq_true_eq, decide_eq_false_iff_not, Bool.and_eq_true, Bool.or_eq_true, Bool.not_eq_true', Bool.not_eq_false', Bool.or_eq_false_iff, Bool.and_eq_false_imp] at h230
                        refine Seq.gy rfl rfl rfl ?_
                        refine Seq.p rfl Ev.move ?_
                        refine Seq.gy rfl rfl rfl ?_
                        refine Seq.p rfl (Ev.faB fd.api_Bar_1) ?_
                        refine Seq.gy rfl rfl rfl ?_
                        refine Seq.p rfl (Ev.ldB sc.int) ?_
                        refine Seq.gy rfl rfl rfl ?_
                        refine Seq.p rfl (Ev.convU64W it.int it.uint64) ?_
                        refine Seq.gy rfl rfl rfl ?_
                        refine Seq.p rfl Ev.mulU ?_
                        refine Seq.gy rfl rfl rfl ?_
                        refine Seq.p rfl Ev.le ?_
                        refine Seq.p rfl Ev.pickT ?_
                        exact Seq.nil ⟨rfl, (by repeat (first | with_reducible exact Off.refl | refine Off.upd ?_ rfl | exact Off.mix | refine Off.mix2 ?_ rfl)), Look.here⟩
                      refine Seq.p rfl Ev.assign ?_
                      refine Seq.nil ?_
                      refine JC.ret ?_
                      show retQ _ _ _ _ _ _ _ _
                      refine ret1 (hp := Part.nil _) (hpost := ?_)
                      first | (simp [*]; done) | (simp; omega)
                    · -- else_t223
                      refine JC.skip ?_
                      refine JC.rs ?_
                      refine Seq.p rfl Ev.assign ?_
                      refine Seq.nil ?_
                      refine JC.ret ?_
                      show retQ _ _ _ _ _ _ _ _
                      refine ret1 (hp := Part.nil _) (hpost := ?_)
                      first | (simp [*]; done) | (simp; omega)
            · try simp only [decide_eq_true_eq, decide_eq_false_iff_not] at h106
              simp at h106
          · try simp only [decide_eq_true_eq, decide_eq_false_iff_not] at h101
            simp at h101
        · try simp only [decide_eq_true_eq, decide_eq_false_iff_not] at h96
          simp at h96
      · try simp only [decide_eq_true_eq, decide_eq_false_iff_not] at h88
        cases h88
    · -- else_t54
      simp only [Bool.or_eq_false_iff, decide_eq_false_iff_not] at c54; omega
end Go.Rx
