/- The document's reading of a line. -/
import Derived.Test.YtcggppjpnepoiaaDoorU2
namespace Go.Rx
open Go Go.RowKit Go.Lib Go.Proofs.YtcggppjpnepoiaaDoor
set_option linter.unusedVariables false
set_option linter.unusedSimpArgs false
theorem readF_bad {l : List Int} {a c : Int} (h : headF l = .bad a c) : readF l = badA a c := by unfold readF; rw [h]
theorem readF_long {l : List Int} {f k : Nat} (h : headF l = .ok f k) (h1 : 2048 < f + k + 7) : readF l = badA 10 2 := by unfold readF; rw [h]; exact if_pos h1
theorem readF_short {l : List Int} {f k : Nat} (h : headF l = .ok f k) (h1 : ¬ 2048 < f + k + 7) (h2 : l.length < f + k + 7) : readF l = badA l.length 20 := by
  unfold readF; rw [h]; simp only; rw [if_neg h1, if_pos h2]
theorem readF_body {l : List Int} {f k : Nat} (h : headF l = .ok f k) (h1 : ¬ 2048 < f + k + 7) (h2 : ¬ l.length < f + k + 7)
    (h3 : trailB ((l.drop (f + k)).take 7) = false ∨ k = 0 ∨ l[f + k - 1]! ≠ 1) : readF l = badA (f + k : Nat) 32 := by
  unfold readF; rw [h]; simp only; rw [if_neg h1, if_neg h2, if_pos h3]
theorem readF_trail {l : List Int} {f k : Nat} (h : headF l = .ok f k) (h1 : ¬ 2048 < f + k + 7) (h2 : ¬ l.length < f + k + 7)
    (h3 : ¬ (trailB ((l.drop (f + k)).take 7) = false ∨ k = 0 ∨ l[f + k - 1]! ≠ 1)) (h4 : (l.drop (f + k)).take 7 ≠ lastL (l.take (f + k))) : readF l = badA (f + k : Nat) 33 := by
  unfold readF; rw [h]; simp only; rw [if_neg h1, if_neg h2, if_neg h3, if_pos h4]
theorem readF_parts {l : List Int} {f k : Nat} (h : headF l = .ok f k) (h1 : ¬ 2048 < f + k + 7) (h2 : ¬ l.length < f + k + 7)
    (h3 : ¬ (trailB ((l.drop (f + k)).take 7) = false ∨ k = 0 ∨ l[f + k - 1]! ≠ 1)) (h4 : ¬ (l.drop (f + k)).take 7 ≠ lastL (l.take (f + k))) : readF l = partA (f + k + 7) (partsF l f (f + k) f ⟨#[]⟩ []) := by
  unfold readF; rw [h]; simp only; rw [if_neg h1, if_neg h2, if_neg h3, if_neg h4]
theorem head_from {l : List Int} {f k : Nat} (h : headF l = .ok f k) : 11 ≤ f ∧ f ≤ 16 ∧ k < 10000 := by
  have hg := dgF_le l 5 0
  unfold headF at h
  split at h
  · split at h <;> cases h
  · split at h
    · cases h
    · split at h
      · rename_i q hq
        split at h
        · cases h
        · rename_i hn
          cases h
          refine ⟨by omega, by omega, ?_⟩
          have h3 := natF_lt hq
          rw [strOf_size] at h3
          have h4 : ((l.drop 10).take (dgF l 5 0)).length ≤ 4 := by rw [List.length_take]; omega
          exact Nat.lt_of_lt_of_le h3 (Nat.pow_le_pow_right (by decide) h4)
      · cases h
theorem head_why {l : List Int} {a c : Int} (h : headF l = .bad a c) : c ≠ 0 := by
  unfold headF at h
  split at h
  · split at h <;> (cases h; decide)
  · split at h
    · cases h; decide
    · split at h
      · split at h
        · cases h; decide
        · cases h
      · cases h; decide
theorem headV_form (l : List Int) : ∃ fr lg a c, headV (headF l) = .tuple #[.int .i64 fr, .int .i64 lg, badV a c] ∧ ((c ≠ 0 ∧ readF l = badA a c) ∨ (c = 0 ∧ ∃ f k : Nat, headF l = .ok f k ∧ fr = (f : Int) ∧ lg = (k : Int) ∧ 11 ≤ f ∧ f ≤ 16 ∧ k < 10000)) := by
  cases h : headF l with
  | bad a c => exact ⟨0, 0, a, c, rfl, .inl ⟨head_why h, readF_bad h⟩⟩
  | ok f k => exact ⟨f, k, 0, 0, rfl, .inr ⟨rfl, f, k, rfl, rfl, rfl, head_from h⟩⟩
theorem isBytes_sub {l m : List Int} (h : isBytes l) (hs : ∀ x ∈ m, x ∈ l) : isBytes m := fun x hx => h x (hs x hx)
theorem isBytes_drop {l : List Int} {n : Nat} (h : isBytes l) : isBytes (l.drop n) := fun x hx => h x (List.mem_of_mem_drop hx)
theorem isBytes_take {l : List Int} {n : Nat} (h : isBytes l) : isBytes (l.take n) := fun x hx => h x (List.mem_of_mem_take hx)
theorem isBytes_last (l : List Int) : isBytes (lastL l) := by
  have hs := sumB_range l
  intro x hx
  simp only [lastL, threeL, List.cons_append, List.nil_append, List.mem_cons, List.not_mem_nil, or_false] at hx
  rcases hx with h | h | h | h | h | h | h <;> omega
theorem isBytes_three (l : List Int) : isBytes (threeL (sumB l)) := by
  have hs := sumB_range l
  intro x hx
  simp only [threeL, List.mem_cons, List.not_mem_nil, or_false] at hx
  rcases hx with h | h | h <;> omega
theorem seven {t : List Int} (h : t.length = 7) : ∃ a b c d e f g, t = [a, b, c, d, e, f, g] := by
  match t, h with
  | [a, b, c, d, e, f, g], _ => exact ⟨a, b, c, d, e, f, g, rfl⟩
theorem trail_last {t l : List Int} (h : t.length = 7) (ht : trailB t = true) : t = lastL l ↔ (t.drop 3).take 3 = threeL (sumB l) := by
  obtain ⟨a, b, c, d, e, f, g, rfl⟩ := seven h
  unfold trailB at ht
  simp only [Bool.and_eq_true, decide_eq_true_eq] at ht
  obtain ⟨⟨_, h1⟩, h2⟩ := ht
  simp at h1 h2
  obtain ⟨rfl, rfl, rfl⟩ := h1
  subst h2
  simp [lastL, threeL]
theorem trailB_seven (a b c d e f g : Int) : trailB [a, b, c, d, e, f, g] = ((digit d && (digit e && digit f) && (decide (a = 49) && (decide (b = 48) && decide (c = 61)))) && decide (g = 1)) := by
  unfold trailB
  rw [Bool.eq_iff_iff]
  simp
set_option maxHeartbeats 4000000 in
set_option maxRecDepth 100000 in
theorem refRead {w : World} {v : Value} {l : List Int} (hr : RSl byteEnc 1 w [] v l) (hB : isBytes l) (hl : l.length ≤ 281474976710656) :
    Spec Go.Proofs.Tryd.prog 36 #[v] w [] (fun u H' => ∃ A c, u = ansV (readF l) A c (decide ((readF l).size ≠ 0)) (readF l).size ∧ H' = [tagsC (.slice A (readF l).tags.length c) (readF l).tags]) := by
  obtain ⟨fr, lg, a0, c0, hfv, hfacts⟩ := headV_form l
  refine Spec.enter (fn := Go.Proofs.Tryd.f36) (n := 129) [v] Go.Proofs.Tryd.func36 (by kernel_rfl) rfl Go.Proofs.Tryd.ntmps36 Go.Proofs.Tryd.results36 rfl (Own.nil _) ?_
  refine JC.re (fun w h => h.nilOwn 30 2) ?_
  refine JC.rs ?_
  refine Seq.alloc (cs := [_, _, _, _, _, _]) (hz := z.bourseref03_Answer) (k := ?_); intro b2
  refine Seq.nil ?_
  refine JC.rs ?_
  refine Seq.p rfl Ev.move ?_
  refine Seq.callP rfl (fun w hw => hfv ▸ refHead (hr.up hw) hB) ?_
  refine Seq.p rfl Ev.move ?_
  refine Seq.p rfl Ev.extract ?_
  refine Seq.p rfl Ev.extract ?_
  refine Seq.p rfl Ev.extract ?_
  refine Seq.alloc (cs := [_, _, _, _, _, _]) (hz := z.bourseref03_Answer) (k := ?_); intro b5
  refine Seq.p rfl Ev.assign ?_
  refine Seq.p rfl Ev.assign ?_
  refine Seq.storeN [_, _, _, _, _, _] sz.bourseref03_Answer (k := ?_)
  refine Seq.nil ?_
  refine JC.seq ?_
  refine JC.rs ?_
  refine Seq.p rfl (Ev.faB fd.bourseref03_Answer_3) ?_
  refine Seq.p rfl (Ev.ldB sc.api_Errno) ?_
  refine Seq.p rfl Ev.ne ?_
  refine Seq.nil ?_
  first | refine JC.c (ht := fun c17 => ?_) (hf := fun c17 => ?_) | refine JC.cb (ht := fun c17 => ?_) (hf := fun c17 => ?_)
  · -- then_t17
    refine JC.rs ?_
    refine Seq.p rfl (Ev.ldBA ag.bourseref03_Answer) ?_
    refine Seq.storeN [_, _, _, _, _, _] sz.bourseref03_Answer (k := ?_)
    refine Seq.nil ?_
    refine JC.ret ?_
    -- return 0
    show retQ _ _ _ _ _ _ _ _
    refine retB1 ag.bourseref03_Answer (H' := [nilC]) (hp := (by repeat (first | exact Part.refl _ | exact Part.nil _ | apply Part.here | apply Part.skip))) (hpost := ?_)
    rcases hfacts with ⟨h1, h2⟩ | ⟨h1, _⟩
    · rw [h2]; exact ⟨none, 0, rfl, rfl⟩
    · exact absurd h1 c17
  · -- else_t17
    obtain ⟨rfl, f, k, hh, rfl, rfl, hf1, hf2, hk⟩ : c0 = 0 ∧ ∃ f k : Nat, headF l = .ok f k ∧ fr = (f : Int) ∧ lg = (k : Int) ∧ 11 ≤ f ∧ f ≤ 16 ∧ k < 10000 := by
      rcases hfacts with ⟨h1, _⟩ | h
      · exact absurd h1 c17
      · exact h
    refine JC.skip ?_
    refine JC.seq ?_
    refine JC.rs ?_
    refine Seq.p rfl Ev.move ?_
    refine Seq.p rfl Ev.move ?_
    refine Seq.p rfl (Ev.addN (m := f) (c := k)) ?_
    refine Seq.p rfl (Ev.addN (m := f + k) (c := 7)) ?_
    refine Seq.p rfl Ev.gt ?_
    refine Seq.nil ?_
    first | refine JC.c (ht := fun c23 => ?_) (hf := fun c23 => ?_) | refine JC.cb (ht := fun c23 => ?_) (hf := fun c23 => ?_)
    · -- then_t23
      refine JC.rs ?_
      refine Seq.callP rfl (fun w hw => refBad) ?_
      refine Seq.storeN [_, _, _, _, _, _] sz.bourseref03_Answer (k := ?_)
      refine Seq.nil ?_
      refine JC.ret ?_
      -- return 1
      show retQ _ _ _ _ _ _ _ _
      refine retB1 ag.bourseref03_Answer (H' := [nilC]) (hp := (by repeat (first | exact Part.refl _ | exact Part.nil _ | apply Part.here | apply Part.skip))) (hpost := ?_)
      rw [readF_long hh (by omega)]
      exact ⟨none, 0, rfl, rfl⟩
    · -- else_t23
      refine JC.skip ?_
      refine JC.rs ?_
      refine Seq.p rfl Ev.move ?_
      refine Seq.p rfl Ev.move ?_
      refine Seq.p rfl (Ev.addN (m := f) (c := k)) ?_
      refine Seq.p rfl Ev.assign ?_
      refine Seq.nil ?_
      refine JC.seq ?_
      refine JC.rs ?_
      refine Seq.p rfl Ev.move ?_
      refine Seq.p rfl (Ev.lenSl sl.sl_uint8 (hr := hr.r)) ?_
      refine Seq.p rfl Ev.move ?_
      refine Seq.p rfl (Ev.addN (m := f + k) (c := 7)) ?_
      refine Seq.p rfl Ev.lt ?_
      refine Seq.nil ?_
      first | refine JC.c (ht := fun c32 => ?_) (hf := fun c32 => ?_) | refine JC.cb (ht := fun c32 => ?_) (hf := fun c32 => ?_)
      · -- then_t32
        refine JC.rs ?_
        refine Seq.p rfl Ev.move ?_
        refine Seq.p rfl (Ev.lenSl sl.sl_uint8 (hr := hr.r)) ?_
        refine Seq.callP rfl (fun w hw => refBad) ?_
        refine Seq.storeN [_, _, _, _, _, _] sz.bourseref03_Answer (k := ?_)
        refine Seq.nil ?_
        refine JC.ret ?_
        -- return 2
        show retQ _ _ _ _ _ _ _ _
        refine retB1 ag.bourseref03_Answer (H' := [nilC]) (hp := (by repeat (first | exact Part.refl _ | exact Part.nil _ | apply Part.here | apply Part.skip))) (hpost := ?_)
        rw [readF_short hh (by omega) (by omega)]
        exact ⟨none, 0, rfl, rfl⟩
      · -- else_t32
        have hs1 : ¬ 2048 < f + k + 7 := by omega
        have hs2 : ¬ l.length < f + k + 7 := by omega
        have hT : ((l.drop (f + k)).take 7).length = 7 := by rw [List.length_take, List.length_drop]; omega
        have hBT : isBytes ((l.drop (f + k)).take 7) := isBytes_take (isBytes_drop hB)
        have hsubT : RSl byteEnc 1 w [] (subSl v (f + k) (f + k + 7) 1) ((l.drop (f + k)).take 7) := by
          have h2 := hr.sub (lo := f + k) (hi := f + k + 7) (by omega) (by omega)
          rwa [show f + k + 7 - (f + k) = 7 by omega] at h2
        have hhead : RSl byteEnc 1 w [] (subSl v 0 (f + k) 1) (l.take (f + k)) := by
          have h2 := hr.sub (lo := 0) (hi := f + k) (by omega) (by omega)
          rwa [List.drop_zero] at h2
        have hTs : RSl byteEnc 1 w [] (subSl (subSl v (f + k) (f + k + 7) 1) 0 3 1) (((l.drop (f + k)).take 7).take 3) := by
          have h2 := hsubT.sub (lo := 0) (hi := 3) (by omega) (by omega)
          rwa [List.drop_zero] at h2
        have hTd : RSl byteEnc 1 w [] (subSl (subSl v (f + k) (f + k + 7) 1) 3 6 1) ((((l.drop (f + k)).take 7).drop 3).take 3) := hsubT.sub (lo := 3) (hi := 6) (by omega) (by omega)
        generalize hTg : (l.drop (f + k)).take 7 = T at hT hBT hsubT hTs hTd
        refine JC.skip ?_
        refine JC.rs ?_
        refine Seq.p rfl Ev.move ?_
        refine Seq.p rfl Ev.move ?_
        refine Seq.p rfl Ev.move ?_
        refine Seq.p rfl (Ev.addN (m := f + k) (c := 7)) ?_
        refine Seq.p rfl (Ev.cut sl.sl_uint8 (hr := hr.r) (l := f + k) (h := f + k + 7) (hlo := ⟨_, (by repeat (first | exact Look.here | apply Look.there (hne := rfl) | exact Look.const | apply Look.mix rfl | exact Look.arg0 | apply Look.args | exact Look.func))⟩) (hhi := ⟨_, (by repeat (first | exact Look.here | apply Look.there (hne := rfl) | exact Look.const | apply Look.mix rfl | exact Look.arg0 | apply Look.args | exact Look.func))⟩)) ?_
        refine Seq.p rfl Ev.assign ?_
        refine Seq.nil ?_
        refine JC.rs ?_
        refine Seq.p rfl Ev.move ?_
        refine Seq.p rfl (Ev.iaN sl.sl_uint8 (i := 3) (hr := hsubT.r) (hi := by rw [hT]; decide)) ?_
        refine Seq.p rfl (Ev.ldE1 sc.uint8 (i := 3) (hr := hsubT.r) (hi := by rw [hT]; decide)) ?_
        refine Seq.p rfl Ev.ge ?_
        refine Seq.p rfl Ev.move ?_
        refine Seq.andG (D := [45, 46, 47, 48, 49, 50]) (d := 45) (t := 50) (k := 5) (hn := fun h45 => ?_) (hx := ?_)
        · repeat (first | refine Seq.gn rfl rfl rfl rfl ?_ | refine Seq.gu rfl rfl rfl ?_)
          refine Seq.p rfl Ev.pickF ?_
          exact Seq.nil ⟨rfl, (by repeat (first | with_reducible exact Off.refl | refine Off.upd ?_ rfl | exact Off.mix | refine Off.mix2 ?_ rfl)), Look.here⟩
        apply Exists.intro
        refine ⟨fun h45 => ?_, fun u50 => ?_⟩
        · try simp only [decide_eq_true_eq, decide_eq_false_iff_not, Bool.and_eq_true, Bool.or_eq_true, Bool.not_eq_true', Bool.not_eq_false', Bool.or_eq_false_iff, Bool.and_eq_false_imp] at h45
          refine Seq.gy rfl rfl rfl ?_
          refine Seq.p rfl Ev.move ?_
          refine Seq.gy rfl rfl rfl ?_
          refine Seq.p rfl (Ev.iaN sl.sl_uint8 (i := 3) (hr := hsubT.r) (hi := by rw [hT]; decide)) ?_
          refine Seq.gy rfl rfl rfl ?_
          refine Seq.p rfl (Ev.ldE1 sc.uint8 (i := 3) (hr := hsubT.r) (hi := by rw [hT]; decide)) ?_
          refine Seq.gy rfl rfl rfl ?_
          refine Seq.p rfl Ev.le ?_
          refine Seq.p rfl Ev.pickT ?_
          exact Seq.nil ⟨rfl, (by repeat (first | with_reducible exact Off.refl | refine Off.upd ?_ rfl | exact Off.mix | refine Off.mix2 ?_ rfl)), Look.here⟩
        refine Seq.p rfl Ev.move ?_
        refine Seq.andG (D := [51, 52, 53, 54, 55, 56]) (d := 51) (t := 56) (k := 5) (hn := fun h51 => ?_) (hx := ?_)
        · repeat (first | refine Seq.gn rfl rfl rfl rfl ?_ | refine Seq.gu rfl rfl rfl ?_)
          refine Seq.p rfl Ev.pickF ?_
          exact Seq.nil ⟨rfl, (by repeat (first | with_reducible exact Off.refl | refine Off.upd ?_ rfl | exact Off.mix | refine Off.mix2 ?_ rfl)), Look.here⟩
        apply Exists.intro
        refine ⟨fun h51 => ?_, fun u56 => ?_⟩
        · try simp only [decide_eq_true_eq, decide_eq_false_iff_not, Bool.and_eq_true, Bool.or_eq_true, Bool.not_eq_true', Bool.not_eq_false', Bool.or_eq_false_iff, Bool.and_eq_false_imp] at h51
          refine Seq.gy rfl rfl rfl ?_
          refine Seq.p rfl Ev.move ?_
          refine Seq.gy rfl rfl rfl ?_
          refine Seq.p rfl (Ev.iaN sl.sl_uint8 (i := 4) (hr := hsubT.r) (hi := by rw [hT]; decide)) ?_
          refine Seq.gy rfl rfl rfl ?_
          refine Seq.p rfl (Ev.ldE1 sc.uint8 (i := 4) (hr := hsubT.r) (hi := by rw [hT]; decide)) ?_
          refine Seq.gy rfl rfl rfl ?_
          refine Seq.p rfl Ev.ge ?_
          refine Seq.p rfl Ev.pickT ?_
          exact Seq.nil ⟨rfl, (by repeat (first | with_reducible exact Off.refl | refine Off.upd ?_ rfl | exact Off.mix | refine Off.mix2 ?_ rfl)), Look.here⟩
        refine Seq.p rfl Ev.move ?_
        refine Seq.andG (D := [57, 58, 59, 60, 61, 62]) (d := 57) (t := 62) (k := 5) (hn := fun h57 => ?_) (hx := ?_)
        · repeat (first | refine Seq.gn rfl rfl rfl rfl ?_ | refine Seq.gu rfl rfl rfl ?_)
          refine Seq.p rfl Ev.pickF ?_
          exact Seq.nil ⟨rfl, (by repeat (first | with_reducible exact Off.refl | refine Off.upd ?_ rfl | exact Off.mix | refine Off.mix2 ?_ rfl)), Look.here⟩
        apply Exists.intro
        refine ⟨fun h57 => ?_, fun u62 => ?_⟩
        · try simp only [decide_eq_true_eq, decide_eq_false_iff_not, Bool.and_eq_true, Bool.or_eq_true, Bool.not_eq_true', Bool.not_eq_false', Bool.or_eq_false_iff, Bool.and_eq_false_imp] at h57
          refine Seq.gy rfl rfl rfl ?_
          refine Seq.p rfl Ev.move ?_
          refine Seq.gy rfl rfl rfl ?_
          refine Seq.p rfl (Ev.iaN sl.sl_uint8 (i := 4) (hr := hsubT.r) (hi := by rw [hT]; decide)) ?_
          refine Seq.gy rfl rfl rfl ?_
          refine Seq.p rfl (Ev.ldE1 sc.uint8 (i := 4) (hr := hsubT.r) (hi := by rw [hT]; decide)) ?_
          refine Seq.gy rfl rfl rfl ?_
          refine Seq.p rfl Ev.le ?_
          refine Seq.p rfl Ev.pickT ?_
          exact Seq.nil ⟨rfl, (by repeat (first | with_reducible exact Off.refl | refine Off.upd ?_ rfl | exact Off.mix | refine Off.mix2 ?_ rfl)), Look.here⟩
        refine Seq.p rfl Ev.move ?_
        refine Seq.andG (D := [63, 64, 65, 66, 67, 68]) (d := 63) (t := 68) (k := 5) (hn := fun h63 => ?_) (hx := ?_)
        · repeat (first | refine Seq.gn rfl rfl rfl rfl ?_ | refine Seq.gu rfl rfl rfl ?_)
          refine Seq.p rfl Ev.pickF ?_
          exact Seq.nil ⟨rfl, (by repeat (first | with_reducible exact Off.refl | refine Off.upd ?_ rfl | exact Off.mix | refine Off.mix2 ?_ rfl)), Look.here⟩
        apply Exists.intro
        refine ⟨fun h63 => ?_, fun u68 => ?_⟩
        · try simp only [decide_eq_true_eq, decide_eq_false_iff_not, Bool.and_eq_true, Bool.or_eq_true, Bool.not_eq_true', Bool.not_eq_false', Bool.or_eq_false_iff, Bool.and_eq_false_imp] at h63
          refine Seq.gy rfl rfl rfl ?_
          refine Seq.p rfl Ev.move ?_
          refine Seq.gy rfl rfl rfl ?_
          refine Seq.p rfl (Ev.iaN sl.sl_uint8 (i := 5) (hr := hsubT.r) (hi := by rw [hT]; decide)) ?_
          refine Seq.gy rfl rfl rfl ?_
          refine Seq.p rfl (Ev.ldE1 sc.uint8 (i := 5) (hr := hsubT.r) (hi := by rw [hT]; decide)) ?_
          refine Seq.gy rfl rfl rfl ?_
          refine Seq.p rfl Ev.ge ?_
          refine Seq.p rfl Ev.pickT ?_
          exact Seq.nil ⟨rfl, (by repeat (first | with_reducible exact Off.refl | refine Off.upd ?_ rfl | exact Off.mix | refine Off.mix2 ?_ rfl)), Look.here⟩
        refine Seq.p rfl Ev.move ?_
        refine Seq.andG (D := [69, 70, 71, 72, 73, 74]) (d := 69) (t := 74) (k := 5) (hn := fun h69 => ?_) (hx := ?_)
        · repeat (first | refine Seq.gn rfl rfl rfl rfl ?_ | refine Seq.gu rfl rfl rfl ?_)
          refine Seq.p rfl Ev.pickF ?_
          exact Seq.nil ⟨rfl, (by repeat (first | with_reducible exact Off.refl | refine Off.upd ?_ rfl | exact Off.mix | refine Off.mix2 ?_ rfl)), Look.here⟩
        apply Exists.intro
        refine ⟨fun h69 => ?_, fun u74 => ?_⟩
        · try simp only [decide_eq_true_eq, decide_eq_false_iff_not, Bool.and_eq_true, Bool.or_eq_true, Bool.not_eq_true', Bool.not_eq_false', Bool.or_eq_false_iff, Bool.and_eq_false_imp] at h69
          refine Seq.gy rfl rfl rfl ?_
          refine Seq.p rfl Ev.move ?_
          refine Seq.gy rfl rfl rfl ?_
          refine Seq.p rfl (Ev.iaN sl.sl_uint8 (i := 5) (hr := hsubT.r) (hi := by rw [hT]; decide)) ?_
          refine Seq.gy rfl rfl rfl ?_
          refine Seq.p rfl (Ev.ldE1 sc.uint8 (i := 5) (hr := hsubT.r) (hi := by rw [hT]; decide)) ?_
          refine Seq.gy rfl rfl rfl ?_
          refine Seq.p rfl Ev.le ?_
          refine Seq.p rfl Ev.pickT ?_
          exact Seq.nil ⟨rfl, (by repeat (first | with_reducible exact Off.refl | refine Off.upd ?_ rfl | exact Off.mix | refine Off.mix2 ?_ rfl)), Look.here⟩
        refine Seq.p rfl Ev.assign ?_
        refine Seq.nil ?_
        refine JC.seq ?_
        refine JC.rs ?_
        refine Seq.p rfl Ev.move ?_
        refine Seq.p rfl (Ev.cut sl.sl_uint8 (hr := hsubT.r) (l := 0) (h := 3) (hlo := rfl) (hhi := ⟨_, (by repeat (first | exact Look.here | apply Look.there (hne := rfl) | exact Look.const | apply Look.mix rfl | exact Look.arg0 | apply Look.args | exact Look.func))⟩)) ?_
        refine Seq.p rfl (Ev.strOf (l := T.take 3) sl.sl_uint8 it.uint8 st.string (hr := hTs.r)) ?_
        refine Seq.p rfl Ev.neStr ?_
        refine Seq.p rfl Ev.move ?_
        refine Seq.orG (D := [79, 80, 81, 82]) (d := 79) (t := 82) (k := 3) (hn := fun h79 => ?_) (hx := ?_)
        · repeat (first | refine Seq.gn rfl rfl rfl rfl ?_ | refine Seq.gu rfl rfl rfl ?_)
          refine Seq.p rfl Ev.pickT ?_
          exact Seq.nil ⟨rfl, (by repeat (first | with_reducible exact Off.refl | refine Off.upd ?_ rfl | exact Off.mix | refine Off.mix2 ?_ rfl)), Look.here⟩
        apply Exists.intro
        refine ⟨fun h79 => ?_, fun u82 => ?_⟩
        · try simp only [decide_eq_true_eq, decide_eq_false_iff_not, Bool.and_eq_true, Bool.or_eq_true, Bool.not_eq_true', Bool.not_eq_false', Bool.or_eq_false_iff, Bool.and_eq_false_imp] at h79
          refine Seq.gy rfl rfl rfl ?_
          refine Seq.p rfl Ev.move ?_
          refine Seq.gy rfl rfl rfl ?_
          refine Seq.p rfl Ev.not ?_
          refine Seq.p rfl Ev.pickF ?_
          exact Seq.nil ⟨rfl, (by repeat (first | with_reducible exact Off.refl | refine Off.upd ?_ rfl | exact Off.mix | refine Off.mix2 ?_ rfl)), Look.here⟩
        refine Seq.p rfl Ev.move ?_
        refine Seq.orG (D := [83, 84, 85, 86, 87, 88]) (d := 83) (t := 88) (k := 5) (hn := fun h83 => ?_) (hx := ?_)
        · repeat (first | refine Seq.gn rfl rfl rfl rfl ?_ | refine Seq.gu rfl rfl rfl ?_)
          refine Seq.p rfl Ev.pickT ?_
          exact Seq.nil ⟨rfl, (by repeat (first | with_reducible exact Off.refl | refine Off.upd ?_ rfl | exact Off.mix | refine Off.mix2 ?_ rfl)), Look.here⟩
        apply Exists.intro
        refine ⟨fun h83 => ?_, fun u88 => ?_⟩
        · try simp only [decide_eq_true_eq, decide_eq_false_iff_not, Bool.and_eq_true, Bool.or_eq_true, Bool.not_eq_true', Bool.not_eq_false', Bool.or_eq_false_iff, Bool.and_eq_false_imp] at h83
          refine Seq.gy rfl rfl rfl ?_
          refine Seq.p rfl Ev.move ?_
          refine Seq.gy rfl rfl rfl ?_
          refine Seq.p rfl (Ev.iaN sl.sl_uint8 (i := 6) (hr := hsubT.r) (hi := by rw [hT]; decide)) ?_
          refine Seq.gy rfl rfl rfl ?_
          refine Seq.p rfl (Ev.ldE1 sc.uint8 (i := 6) (hr := hsubT.r) (hi := by rw [hT]; decide)) ?_
          refine Seq.gy rfl rfl rfl ?_
          refine Seq.p rfl Ev.ne ?_
          refine Seq.p rfl Ev.pickF ?_
          exact Seq.nil ⟨rfl, (by repeat (first | with_reducible exact Off.refl | refine Off.upd ?_ rfl | exact Off.mix | refine Off.mix2 ?_ rfl)), Look.here⟩
        refine Seq.p rfl Ev.move ?_
        refine Seq.orG (D := [89, 90, 91, 92]) (d := 89) (t := 92) (k := 3) (hn := fun h89 => ?_) (hx := ?_)
        · repeat (first | refine Seq.gn rfl rfl rfl rfl ?_ | refine Seq.gu rfl rfl rfl ?_)
          refine Seq.p rfl Ev.pickT ?_
          exact Seq.nil ⟨rfl, (by repeat (first | with_reducible exact Off.refl | refine Off.upd ?_ rfl | exact Off.mix | refine Off.mix2 ?_ rfl)), Look.here⟩
        apply Exists.intro
        refine ⟨fun h89 => ?_, fun u92 => ?_⟩
        · try simp only [decide_eq_true_eq, decide_eq_false_iff_not, Bool.and_eq_true, Bool.or_eq_true, Bool.not_eq_true', Bool.not_eq_false', Bool.or_eq_false_iff, Bool.and_eq_false_imp] at h89
          refine Seq.gy rfl rfl rfl ?_
          refine Seq.p rfl Ev.move ?_
          refine Seq.gy rfl rfl rfl ?_
          refine Seq.p rfl Ev.eq ?_
          refine Seq.p rfl Ev.pickF ?_
          exact Seq.nil ⟨rfl, (by repeat (first | with_reducible exact Off.refl | refine Off.upd ?_ rfl | exact Off.mix | refine Off.mix2 ?_ rfl)), Look.here⟩
        refine Seq.p rfl Ev.move ?_
        refine Seq.orG (D := [93, 94, 95, 96, 97, 98, 99, 100]) (d := 93) (t := 100) (k := 7) (hn := fun h93 => ?_) (hx := ?_)
        · repeat (first | refine Seq.gn rfl rfl rfl rfl ?_ | refine Seq.gu rfl rfl rfl ?_)
          refine Seq.p rfl Ev.pickT ?_
          exact Seq.nil ⟨rfl, (by repeat (first | with_reducible exact Off.refl | refine Off.upd ?_ rfl | exact Off.mix | refine Off.mix2 ?_ rfl)), Look.here⟩
        apply Exists.intro
        refine ⟨fun h93 => ?_, fun u100 => ?_⟩
        · try simp only [decide_eq_true_eq, decide_eq_false_iff_not, Bool.and_eq_true, Bool.or_eq_true, Bool.not_eq_true', Bool.not_eq_false', Bool.or_eq_false_iff, Bool.and_eq_false_imp] at h93
          refine Seq.gy rfl rfl rfl ?_
          refine Seq.p rfl Ev.move ?_
          refine Seq.gy rfl rfl rfl ?_
          refine Seq.p rfl Ev.move ?_
          refine Seq.gy rfl rfl rfl ?_
          refine Seq.p rfl (Ev.dec (m := f + k)) ?_
          refine Seq.gy rfl rfl rfl ?_
          refine Seq.p rfl (Ev.iaN sl.sl_uint8 (hr := hr.r)) ?_
          refine Seq.gy rfl rfl rfl ?_
          refine Seq.p rfl (Ev.ldE1 sc.uint8 (hr := hr.r)) ?_
          refine Seq.gy rfl rfl rfl ?_
          refine Seq.p rfl Ev.ne ?_
          refine Seq.p rfl Ev.pickF ?_
          exact Seq.nil ⟨rfl, (by repeat (first | with_reducible exact Off.refl | refine Off.upd ?_ rfl | exact Off.mix | refine Off.mix2 ?_ rfl)), Look.here⟩
        refine Seq.nil ?_
        first | refine JC.c (ht := fun c100 => ?_) (hf := fun c100 => ?_) | refine JC.cb (ht := fun c100 => ?_) (hf := fun c100 => ?_)
        · -- then_t100
          have hcc : trailB T = false ∨ k = 0 ∨ l[f + k - 1]! ≠ 1 := by
            obtain ⟨x0, x1, x2, x3, x4, x5, x6, rfl⟩ := seven hT
            rw [show strOf (List.take 3 [x0, x1, x2, x3, x4, x5, x6]) = strOf [x0, x1, x2] from rfl, show (⟨#[49, 48, 61]⟩ : ByteArray) = strOf [49, 48, 61] from rfl] at c100
            have hi := strOf_inj (a := [x0, x1, x2]) (b := [49, 48, 61]) (fun n hn => hBT n (by simp at hn ⊢; rcases hn with h | h | h <;> simp [h])) (by decide)
            rw [trailB_seven]
            generalize l[f + k - 1]! = y at c100 ⊢
            simp only [Bool.or_eq_true, Bool.not_eq_true', Bool.and_eq_false_iff, decide_eq_true_eq, decide_eq_false_iff_not, ne_eq, hi, digit, List.cons.injEq, and_true, Bool.and_eq_true] at c100 ⊢
            simp at c100
            omega
          refine JC.rs ?_
          refine Seq.p rfl Ev.move ?_
          refine Seq.callP rfl (fun w hw => refBad) ?_
          refine Seq.storeN [_, _, _, _, _, _] sz.bourseref03_Answer (k := ?_)
          refine Seq.nil ?_
          refine JC.ret ?_
          -- return 3
          show retQ _ _ _ _ _ _ _ _
          refine retB1 ag.bourseref03_Answer (H' := [nilC]) (hp := (by repeat (first | exact Part.refl _ | exact Part.nil _ | apply Part.here | apply Part.skip))) (hpost := ?_)
          rw [readF_body hh hs1 hs2 (by rw [hTg]; exact hcc)]
          exact ⟨none, 0, rfl, rfl⟩
        · -- else_t100
          have hcc : ¬ (trailB T = false ∨ k = 0 ∨ l[f + k - 1]! ≠ 1) := by
            obtain ⟨x0, x1, x2, x3, x4, x5, x6, rfl⟩ := seven hT
            rw [show strOf (List.take 3 [x0, x1, x2, x3, x4, x5, x6]) = strOf [x0, x1, x2] from rfl, show (⟨#[49, 48, 61]⟩ : ByteArray) = strOf [49, 48, 61] from rfl] at c100
            have hi := strOf_inj (a := [x0, x1, x2]) (b := [49, 48, 61]) (fun n hn => hBT n (by simp at hn ⊢; rcases hn with h | h | h <;> simp [h])) (by decide)
            rw [trailB_seven]
            generalize l[f + k - 1]! = y at c100 ⊢
            simp only [Bool.or_eq_false_iff, Bool.not_eq_false', Bool.and_eq_true, decide_eq_true_eq, decide_eq_false_iff_not, ne_eq, hi, digit, List.cons.injEq, and_true, Bool.and_eq_false_iff] at c100 ⊢
            simp at c100
            omega
          refine JC.skip ?_
          refine JC.seq ?_
          refine JC.qs mixed (by kernel_rfl) ?_
          refine Qui.p rfl Ev.move ?_
          refine Qui.p rfl (Ev.cut sl.sl_uint8 (hr := hsubT.r) (l := 3) (h := 6) (hlo := ⟨_, (by repeat (first | exact Look.here | apply Look.there (hne := rfl) | exact Look.const | apply Look.mix rfl | exact Look.arg0 | apply Look.args | exact Look.func))⟩) (hhi := ⟨_, (by repeat (first | exact Look.here | apply Look.there (hne := rfl) | exact Look.const | apply Look.mix rfl | exact Look.arg0 | apply Look.args | exact Look.func))⟩)) ?_
          refine Qui.p rfl (Ev.strOf (l := (T.drop 3).take 3) sl.sl_uint8 it.uint8 st.string (hr := hTd.r)) ?_
          refine Qui.p rfl Ev.move ?_
          refine Qui.p rfl Ev.move ?_
          refine Qui.p rfl (Ev.cut sl.sl_uint8 (hr := hr.r) (l := 0) (h := f + k) (hlo := rfl) (hhi := ⟨_, (by repeat (first | exact Look.here | apply Look.there (hne := rfl) | exact Look.const | apply Look.mix rfl | exact Look.arg0 | apply Look.args | exact Look.func))⟩)) ?_
          refine Qui.call rfl (fun w hw => refSum (hhead.up hw) (isBytes_take hB)) ?_
          refine Qui.call rfl (fun w hw => refThree (sumB_range (l.take (f + k)))) ?_
          refine Qui.p rfl Ev.neStr ?_
          refine Qui.nil ?_
          first | refine JC.c (ht := fun c111 => ?_) (hf := fun c111 => ?_) | refine JC.cb (ht := fun c111 => ?_) (hf := fun c111 => ?_)
          · -- then_t111
            have h4 : T ≠ lastL (l.take (f + k)) := fun h => c111 (by rw [(trail_last hT (by cases hb : trailB T with | true => rfl | false => exact absurd (.inl hb) hcc)).1 h])
            refine JC.rs ?_
            refine Seq.p rfl Ev.move ?_
            refine Seq.callP rfl (fun w hw => refBad) ?_
            refine Seq.storeN [_, _, _, _, _, _] sz.bourseref03_Answer (k := ?_)
            refine Seq.nil ?_
            refine JC.ret ?_
            -- return 4
            show retQ _ _ _ _ _ _ _ _
            refine retB1 ag.bourseref03_Answer (H' := [nilC]) (hp := (by repeat (first | exact Part.refl _ | exact Part.nil _ | apply Part.here | apply Part.skip))) (hpost := ?_)
            rw [readF_trail hh hs1 hs2 (by rw [hTg]; exact hcc) (by rw [hTg]; exact h4)]
            exact ⟨none, 0, rfl, rfl⟩
          · -- else_t111
            have h4 : ¬ T ≠ lastL (l.take (f + k)) := fun h => h ((trail_last hT (by cases hb : trailB T with | true => rfl | false => exact absurd (.inl hb) hcc)).2 ((strOf_inj (isBytes_take (isBytes_drop hBT)) (isBytes_three _)).1 (Classical.not_not.1 c111)))
            have hrd := readF_parts hh hs1 hs2 (by rw [hTg]; exact hcc) (by rw [hTg]; exact h4)
            have hb1 : l[f + k - 1]! = 1 := Classical.not_not.1 fun h => hcc (.inr (.inr h))
            obtain ⟨kind, xs, place, why, hpa, hz⟩ : ∃ kind xs place why, partsA (partsF l f (f + k) f ⟨#[]⟩ []) = ⟨kind, xs, place, why, 0⟩ ∧ readF l = ⟨kind, xs, if why = 0 then ((f + k + 7 : Nat) : Int) else place, why, f + k + 7⟩ := by
              rw [hrd]
              cases hq : partsF l f (f + k) f ⟨#[]⟩ [] with
              | bad p e => exact ⟨_, _, _, _, rfl, by simp only [partA]; rw [if_neg (partsF_why hq)]⟩
              | ok kind xs => exact ⟨_, _, _, _, rfl, rfl⟩
            refine JC.skip ?_
            refine JC.rs ?_
            refine Seq.p rfl Ev.move ?_
            refine Seq.p rfl Ev.move ?_
            refine Seq.p rfl Ev.move ?_
            refine Seq.call rfl (fun w' hw => refParts (hr.up hw) hB hl (by omega) (by omega) hb1) (F := _) (by exact List.Perm.refl _) ?_
            rw [hpa]
            rintro _ _ ⟨A1, c1, rfl, rfl⟩
            simp only [ansV]
            refine Seq.storeN [_, _, _, _, _, _] sz.bourseref03_Answer (k := ?_)
            refine Seq.nil ?_
            refine JC.rs ?_
            refine Seq.p rfl Ev.move ?_
            refine Seq.p rfl (Ev.addN (m := f + k) (c := 7)) ?_
            refine Seq.p rfl (Ev.faB fd.bourseref03_Answer_4) ?_
            refine Seq.storeN [_, _, _, _, _, _] sz.bool (k := ?_)
            refine Seq.p rfl (Ev.faB fd.bourseref03_Answer_5) ?_
            refine Seq.storeN [_, _, _, _, _, _] sz.int (k := ?_)
            refine Seq.nil ?_
            refine JC.seq ?_
            refine JC.rs ?_
            refine Seq.p rfl (Ev.faB fd.bourseref03_Answer_3) ?_
            refine Seq.p rfl (Ev.ldB sc.api_Errno) ?_
            refine Seq.p rfl Ev.eq ?_
            refine Seq.nil ?_
            first | refine JC.c (ht := fun c124 => ?_) (hf := fun c124 => ?_) | refine JC.cb (ht := fun c124 => ?_) (hf := fun c124 => ?_)
            · -- then_t124
              refine JC.reg ?_
              refine Seq.p rfl Ev.move ?_
              refine Seq.p rfl (Ev.addN (m := f + k) (c := 7)) ?_
              refine Seq.p rfl (Ev.faB fd.bourseref03_Answer_2) ?_
              refine Seq.storeN [_, _, _, _, _, _] sz.int (k := ?_)
              refine Seq.nil ?_
              refine JC.rs ?_
              refine Seq.p rfl (Ev.ldBA ag.bourseref03_Answer) ?_
              refine Seq.storeN [_, _, _, _, _, _] sz.bourseref03_Answer (k := ?_)
              refine Seq.nil ?_
              refine JC.ret ?_
              -- return 5
              show retQ _ _ _ _ _ _ _ _
              refine retB1 ag.bourseref03_Answer (H' := [tagsC (.slice A1 xs.length c1) xs]) (hp := (by repeat (first | exact Part.refl _ | exact Part.nil _ | apply Part.here | apply Part.skip))) (hpost := ?_)
              rw [hz]
              first | exact ⟨A1, c1, by rw [if_pos c124]; rfl, rfl⟩ | exact ⟨A1, c1, by rw [if_neg c124]; rfl, rfl⟩
            · -- else_t124
              refine JC.skip ?_
              refine JC.rs ?_
              refine Seq.p rfl (Ev.ldBA ag.bourseref03_Answer) ?_
              refine Seq.storeN [_, _, _, _, _, _] sz.bourseref03_Answer (k := ?_)
              refine Seq.nil ?_
              refine JC.ret ?_
              -- return 6
              show retQ _ _ _ _ _ _ _ _
              refine retB1 ag.bourseref03_Answer (H' := [tagsC (.slice A1 xs.length c1) xs]) (hp := (by repeat (first | exact Part.refl _ | exact Part.nil _ | apply Part.here | apply Part.skip))) (hpost := ?_)
              rw [hz]
              first | exact ⟨A1, c1, by rw [if_pos c124]; rfl, rfl⟩ | exact ⟨A1, c1, by rw [if_neg c124]; rfl, rfl⟩
set_option maxHeartbeats 1000000 in
set_option maxRecDepth 100000 in
theorem refDecode {w : World} {v : Value} {l : List Int} (hr : RSl byteEnc 1 w [] v l) (hB : isBytes l) (hl : l.length ≤ 281474976710656) :
    Spec Go.Proofs.Tryd.prog 18 #[v] w [] (fun u H' => ∃ A c, u = .tuple #[.string (readF l).kind, .slice A (readF l).tags.length c, .int .i64 (readF l).place, .int .i64 (readF l).why] ∧ H' = [tagsC (.slice A (readF l).tags.length c) (readF l).tags]) := by
  refine Spec.enter (fn := Go.Proofs.Tryd.f18) (n := 17) [v] Go.Proofs.Tryd.func18 (by kernel_rfl) rfl Go.Proofs.Tryd.ntmps18 Go.Proofs.Tryd.results18 rfl (Own.nil _) ?_
  refine JC.rs ?_
  refine Seq.p rfl Ev.assign ?_
  refine Seq.p rfl Ev.assign ?_
  refine Seq.p rfl Ev.assign ?_
  refine Seq.p rfl Ev.assign ?_
  refine Seq.nil ?_
  refine JC.rs ?_
  refine Seq.p rfl Ev.move ?_
  refine Seq.call rfl (fun w' hw => refRead (hr.up hw) hB hl) (F := _) (by exact List.Perm.refl _) ?_
  rintro _ _ ⟨A1, c1, rfl, rfl⟩
  simp only [ansV]
  refine Seq.alloc (cs := [_, _, _, _, _, _]) (hz := z.bourseref03_Answer) (k := ?_); intro b6
  refine Seq.storeN [_, _, _, _, _, _] sz.bourseref03_Answer (k := ?_)
  refine Seq.nil ?_
  refine JC.qs mixed (by kernel_rfl) ?_
  refine Qui.p rfl (Ev.faB fd.bourseref03_Answer_0) ?_
  refine Qui.p rfl (Ev.ldB sc.string) ?_
  refine Qui.p rfl (Ev.faB fd.bourseref03_Answer_1) ?_
  refine Qui.p rfl (Ev.ldB sc.sl_api_Tag) ?_
  refine Qui.p rfl (Ev.faB fd.bourseref03_Answer_2) ?_
  refine Qui.p rfl (Ev.ldB sc.int) ?_
  refine Qui.p rfl (Ev.faB fd.bourseref03_Answer_3) ?_
  refine Qui.p rfl (Ev.ldB sc.api_Errno) ?_
  refine Qui.p rfl Ev.assign ?_
  refine Qui.p rfl Ev.assign ?_
  refine Qui.p rfl Ev.assign ?_
  refine Qui.p rfl Ev.assign ?_
  refine Qui.nil ?_
  refine JC.ret ?_
  -- return 0
  show retQ _ _ _ _ _ _ _ _
  refine retI (RVs.t (hs := (RVs.t (hs := (RVs.t (hs := (RVs.t (hs := RVs.nil)))))))) (H' := [tagsC (.slice A1 (readF l).tags.length c1) (readF l).tags]) (by repeat (first | exact Part.refl _ | exact Part.nil _ | apply Part.here | apply Part.skip)) ?_
  exact ⟨A1, c1, rfl, rfl⟩
end Go.Rx
