/- The program's reading of a line. -/
import Derived.Test.YtcggppjpnepoiaaDoorU3
namespace Go.Rx
open Go Go.RowKit Go.Lib Go.Proofs.YtcggppjpnepoiaaDoor
set_option linter.unusedVariables false
set_option linter.unusedSimpArgs false
def lineA (r : ReadA) (A : Option Addr) (c : Nat) : Value := .agg #[.string r.kind, .slice A r.tags.length c, .int .i64 (r.size : Int), .int .i64 (if r.why = 0 then 0 else r.place)]
theorem frameV_form (l : List Int) : ∃ sz0 pl fr to c, frameV l (headF l) = .tuple #[lineV sz0 pl, .int .i64 fr, .int .i64 to, .int .i64 c] ∧
    ((c ≠ 0 ∧ sz0 = 0 ∧ readF l = badA pl c) ∨ (c = 0 ∧ ∃ f k : Nat, headF l = .ok f k ∧ ¬ 2048 < f + k + 7 ∧ ¬ l.length < f + k + 7 ∧ sz0 = ((f + k + 7 : Nat) : Int) ∧ pl = 0 ∧ fr = (f : Int) ∧ to = ((f + k : Nat) : Int) ∧ 11 ≤ f ∧ f ≤ 16 ∧ k < 10000)) := by
  cases h : headF l with
  | bad a c => exact ⟨0, a, 0, 0, c, rfl, .inl ⟨head_why h, rfl, readF_bad h⟩⟩
  | ok f k =>
    rw [frameV_ok]
    by_cases h1 : 2048 < f + k + 7
    · rw [if_pos h1]
      exact ⟨0, 10, 0, 0, 2, rfl, .inl ⟨by decide, rfl, readF_long h h1⟩⟩
    · rw [if_neg h1]
      by_cases h2 : l.length < f + k + 7
      · rw [if_pos h2]
        exact ⟨0, l.length, 0, 0, 20, rfl, .inl ⟨by decide, rfl, readF_short h h1 h2⟩⟩
      · rw [if_neg h2]
        exact ⟨_, 0, _, _, 0, rfl, .inr ⟨rfl, f, k, rfl, h1, h2, rfl, rfl, rfl, rfl, head_from h⟩⟩
theorem readF_cases (l : List Int) : (∃ a c, readF l = badA a c ∧ c ≠ 0) ∨ ∃ f k, headF l = .ok f k ∧ readF l = partA (f + k + 7) (partsF l f (f + k) f ⟨#[]⟩ []) := by
  unfold readF
  split
  · rename_i a c h
    exact .inl ⟨a, c, rfl, head_why h⟩
  · rename_i f k h
    split
    · exact .inl ⟨_, _, rfl, by decide⟩
    · split
      · exact .inl ⟨_, _, rfl, by decide⟩
      · split
        · exact .inl ⟨_, _, rfl, by decide⟩
        · split
          · exact .inl ⟨_, _, rfl, by decide⟩
          · exact .inr ⟨f, k, h, rfl⟩
theorem readF_bad_form {l : List Int} (h : (readF l).why ≠ 0) : (readF l).kind = ⟨#[]⟩ ∧ (readF l).tags = [] := by
  rcases readF_cases l with ⟨a, c, h1, _⟩ | ⟨f, k, _, h1⟩
  · rw [h1]; exact ⟨rfl, rfl⟩
  · rw [h1] at h ⊢
    cases hp : partsF l f (f + k) f ⟨#[]⟩ [] with
    | bad p e => exact ⟨rfl, rfl⟩
    | ok kind xs => rw [hp] at h; exact absurd rfl h
theorem readF_ok_place {l : List Int} (h : (readF l).why = 0) : (readF l).place = ((readF l).size : Int) := by
  rcases readF_cases l with ⟨a, c, h1, h2⟩ | ⟨f, k, _, h1⟩
  · rw [h1] at h; exact absurd h h2
  · rw [h1] at h ⊢
    cases hp : partsF l f (f + k) f ⟨#[]⟩ [] with
    | bad p e => rw [hp] at h; exact absurd h (partsF_why hp)
    | ok kind xs => rfl
theorem take_field {l : List Int} {p : Nat} : (l.drop p).take (firstF 1 (l.drop p)) = fieldAt l p := rfl
set_option maxHeartbeats 4000000 in
set_option maxRecDepth 100000 in
theorem textRead {w : World} {v : Value} {l : List Int} (hr : RSl byteEnc 1 w [] v l) (hB : isBytes l) (hl : l.length ≤ 281474976710656) (hL : Laid w) :
    Spec Go.Proofs.Tryd.prog 35 #[v] w [] (fun u H' => ∃ A c, u = .tuple #[lineA (readF l) A c, .int .i64 (readF l).why] ∧ H' = [tagsC (.slice A (readF l).tags.length c) (readF l).tags]) := by
  obtain ⟨sz0, pl, fr, to, c0, hfv, hfacts⟩ := frameV_form l
  refine Spec.enter (fn := Go.Proofs.Tryd.f35) (n := 88) [v] Go.Proofs.Tryd.func35 (by kernel_rfl) rfl Go.Proofs.Tryd.ntmps35 Go.Proofs.Tryd.results35 rfl (Own.nil _) ?_
  refine JC.re (fun w h => (h.nilOwn 30 2).nilOwn 30 2) ?_
  refine JC.rs ?_
  refine Seq.alloc (cs := [_, _, _, _]) (hz := z.text_line) (k := ?_); intro b2
  refine Seq.p rfl Ev.assign ?_
  refine Seq.nil ?_
  refine JC.rs ?_
  refine Seq.p rfl Ev.move ?_
  refine Seq.callP rfl (fun w hw => hfv ▸ textFrame (hr.up hw) hB (hL.upd hw)) ?_
  refine Seq.p rfl Ev.move ?_
  refine Seq.p rfl Ev.extract ?_
  refine Seq.p rfl Ev.extract ?_
  refine Seq.p rfl Ev.extract ?_
  refine Seq.p rfl Ev.extract ?_
  refine Seq.alloc (cs := [_, _, _, _]) (hz := z.text_line) (k := ?_); intro b4
  refine Seq.storeN [_, _, _, _] sz.text_line (k := ?_)
  refine Seq.p rfl Ev.assign ?_
  refine Seq.p rfl Ev.assign ?_
  refine Seq.p rfl Ev.assign ?_
  refine Seq.nil ?_
  refine JC.seq ?_
  refine JC.rs ?_
  refine Seq.p rfl Ev.move ?_
  refine Seq.p rfl Ev.ne ?_
  refine Seq.nil ?_
  first | refine JC.c (ht := fun c19 => ?_) (hf := fun c19 => ?_) | refine JC.cb (ht := fun c19 => ?_) (hf := fun c19 => ?_)
  · -- then_t19
    refine JC.rs ?_
    refine Seq.p rfl (Ev.ldBA ag.text_line) ?_
    refine Seq.p rfl Ev.move ?_
    refine Seq.storeN [_, _, _, _] sz.text_line (k := ?_)
    refine Seq.p rfl Ev.assign ?_
    refine Seq.nil ?_
    refine JC.ret ?_
    -- return 0
    show retQ _ _ _ _ _ _ _ _
    refine retB2 ag.text_line (H' := [nilC]) (hp := (by repeat (first | exact Part.refl _ | exact Part.nil _ | apply Part.here | apply Part.skip))) (hpost := ?_)
    rcases hfacts with ⟨h1, rfl, h2⟩ | ⟨h1, _⟩
    · rw [h2]; exact ⟨none, 0, by unfold lineA badA; simp only; rw [if_neg h1]; rfl, rfl⟩
    · exact absurd h1 c19
  · -- else_t19
    obtain ⟨rfl, f, k, hh, hs1, hs2, rfl, rfl, rfl, rfl, hf1, hf2, hk⟩ : c0 = 0 ∧ ∃ f k : Nat, headF l = .ok f k ∧ ¬ 2048 < f + k + 7 ∧ ¬ l.length < f + k + 7 ∧ sz0 = ((f + k + 7 : Nat) : Int) ∧ pl = 0 ∧ fr = (f : Int) ∧ to = ((f + k : Nat) : Int) ∧ 11 ≤ f ∧ f ≤ 16 ∧ k < 10000 := by
      rcases hfacts with ⟨h1, _⟩ | h
      · exact absurd h1 c19
      · exact h
    have hT : ((l.drop (f + k)).take 7).length = 7 := by rw [List.length_take, List.length_drop]; omega
    have hBT : isBytes ((l.drop (f + k)).take 7) := isBytes_take (isBytes_drop hB)
    have hsubT : RSl byteEnc 1 w [] (subSl v (f + k) (f + k + 7) 1) ((l.drop (f + k)).take 7) := by
      have h2 := hr.sub (lo := f + k) (hi := f + k + 7) (by omega) (by omega)
      rwa [show f + k + 7 - (f + k) = 7 by omega] at h2
    have hhead : RSl byteEnc 1 w [] (subSl v 0 (f + k) 1) (l.take (f + k)) := by
      have h2 := hr.sub (lo := 0) (hi := f + k) (by omega) (by omega)
      rwa [List.drop_zero] at h2
    generalize hTg : (l.drop (f + k)).take 7 = T at hT hBT hsubT
    refine JC.skip ?_
    refine JC.seq ?_
    refine JC.blk ?_
    refine JC.rs ?_
    refine Seq.p rfl Ev.move ?_
    refine Seq.p rfl Ev.move ?_
    refine Seq.p rfl (Ev.faB fd.text_line_2) ?_
    refine Seq.p rfl (Ev.ldB sc.int) ?_
    refine Seq.p rfl (Ev.cut sl.sl_uint8 (hr := hr.r) (l := f + k) (h := f + k + 7) (hlo := ⟨_, (by repeat (first | exact Look.here | apply Look.there (hne := rfl) | exact Look.const | apply Look.mix rfl | exact Look.arg0 | apply Look.args | exact Look.func))⟩) (hhi := ⟨_, (by repeat (first | exact Look.here | apply Look.there (hne := rfl) | exact Look.const | apply Look.mix rfl | exact Look.arg0 | apply Look.args | exact Look.func))⟩)) ?_
    refine Seq.callP rfl (fun w hw => textTrailed (hsubT.up hw) hBT hT) ?_
    refine Seq.p rfl Ev.not ?_
    refine Seq.p rfl Ev.move ?_
    refine Seq.orG (D := [30, 31, 32, 33, 34]) (d := 30) (t := 34) (k := 4) (hn := fun h30 => ?_) (hx := ?_)
    · repeat (first | refine Seq.gn rfl rfl rfl rfl ?_ | refine Seq.gu rfl rfl rfl ?_)
      refine Seq.p rfl Ev.pickT ?_
      exact Seq.nil ⟨rfl, (by repeat (first | with_reducible exact Off.refl | refine Off.upd ?_ rfl | exact Off.mix | refine Off.mix2 ?_ rfl)), Look.here⟩
    apply Exists.intro
    refine ⟨fun h30 => ?_, fun u34 => ?_⟩
    · try simp only [decide_eq_true_eq, decide_eq_false_iff_not, Bool.and_eq_true, Bool.or_eq_true, Bool.not_eq_true', Bool.not_eq_false', Bool.or_eq_false_iff, Bool.and_eq_false_imp] at h30
      refine Seq.gy rfl rfl rfl ?_
      refine Seq.p rfl Ev.move ?_
      refine Seq.gy rfl rfl rfl ?_
      refine Seq.p rfl Ev.move ?_
      refine Seq.gy rfl rfl rfl ?_
      refine Seq.p rfl Ev.eq ?_
      refine Seq.p rfl Ev.pickF ?_
      exact Seq.nil ⟨rfl, (by repeat (first | with_reducible exact Off.refl | refine Off.upd ?_ rfl | exact Off.mix | refine Off.mix2 ?_ rfl)), Look.here⟩
    refine Seq.p rfl Ev.move ?_
    refine Seq.orG (D := [35, 36, 37, 38, 39, 40, 41, 42]) (d := 35) (t := 42) (k := 7) (hn := fun h35 => ?_) (hx := ?_)
    · repeat (first | refine Seq.gn rfl rfl rfl rfl ?_ | refine Seq.gu rfl rfl rfl ?_)
      refine Seq.p rfl Ev.pickT ?_
      exact Seq.nil ⟨rfl, (by repeat (first | with_reducible exact Off.refl | refine Off.upd ?_ rfl | exact Off.mix | refine Off.mix2 ?_ rfl)), Look.here⟩
    apply Exists.intro
    refine ⟨fun h35 => ?_, fun u42 => ?_⟩
    · try simp only [decide_eq_true_eq, decide_eq_false_iff_not, Bool.and_eq_true, Bool.or_eq_true, Bool.not_eq_true', Bool.not_eq_false', Bool.or_eq_false_iff, Bool.and_eq_false_imp] at h35
      refine Seq.gy rfl rfl rfl ?_
      refine Seq.p rfl Ev.move ?_
      refine Seq.gy rfl rfl rfl ?_
      refine Seq.p rfl Ev.move ?_
      refine Seq.gy rfl rfl rfl ?_
      refine Seq.p rfl (Ev.dec (m := f + k)) ?_
      refine Seq.gy rfl rfl rfl ?_
      refine Seq.p rfl (Ev.iaN sl.sl_uint8 (hr := hr.r)) ?_
      refine Seq.gy rfl rfl rfl ?_
      refine Seq.p rfl (Ev.ldE1 sc.uint8 (hr := hr.r)) ?_
      refine Seq.gy rfl rfl rfl ?_
      refine Seq.p rfl Ev.ne ?_
      refine Seq.p rfl Ev.pickF ?_
      exact Seq.nil ⟨rfl, (by repeat (first | with_reducible exact Off.refl | refine Off.upd ?_ rfl | exact Off.mix | refine Off.mix2 ?_ rfl)), Look.here⟩
    refine Seq.p rfl Ev.assign ?_
    refine Seq.nil ?_
    first | refine JC.c (ht := fun c22 => ?_) (hf := fun c22 => ?_) | refine JC.cb (ht := fun c22 => ?_) (hf := fun c22 => ?_)
    · -- then_t22
      have hcc : trailB T = false ∨ k = 0 ∨ l[f + k - 1]! ≠ 1 := by
        simp only [Bool.or_eq_true, Bool.not_eq_true', decide_eq_true_eq] at c22
        rcases c22 with (h | h) | h
        · exact .inl h
        · exact .inr (.inl (by omega))
        · exact .inr (.inr h)
      refine JC.rs ?_
      refine Seq.p rfl Ev.move ?_
      refine Seq.p rfl (Ev.buildN [_, _, _, _] pl.text_line z.text_line) ?_
      refine Seq.storeN [_, _, _, _] sz.text_line (k := ?_)
      refine Seq.p rfl Ev.assign ?_
      refine Seq.nil ?_
      refine JC.ret ?_
      -- return 1
      show retQ _ _ _ _ _ _ _ _
      refine retB2 ag.text_line (H' := [nilC]) (hp := (by repeat (first | exact Part.refl _ | exact Part.nil _ | apply Part.here | apply Part.skip))) (hpost := ?_)
      rw [readF_body hh hs1 hs2 (by rw [hTg]; exact hcc)]
      exact ⟨none, 0, rfl, rfl⟩
    · -- else_t22
      have hcc : ¬ (trailB T = false ∨ k = 0 ∨ l[f + k - 1]! ≠ 1) := by
        simp only [Bool.or_eq_false_iff, Bool.not_eq_false', decide_eq_false_iff_not] at c22
        rintro (h | h | h)
        · rw [c22.1.1] at h; cases h
        · exact c22.1.2 (by omega)
        · exact c22.2 h
      refine JC.qs mixed (by kernel_rfl) ?_
      refine Qui.p rfl Ev.move ?_
      refine Qui.p rfl Ev.move ?_
      refine Qui.p rfl (Ev.faB fd.text_line_2) ?_
      refine Qui.p rfl (Ev.ldB sc.int) ?_
      refine Qui.p rfl (Ev.cut sl.sl_uint8 (hr := hr.r) (l := f + k) (h := f + k + 7) (hlo := ⟨_, (by repeat (first | exact Look.here | apply Look.there (hne := rfl) | exact Look.const | apply Look.mix rfl | exact Look.arg0 | apply Look.args | exact Look.func))⟩) (hhi := ⟨_, (by repeat (first | exact Look.here | apply Look.there (hne := rfl) | exact Look.const | apply Look.mix rfl | exact Look.arg0 | apply Look.args | exact Look.func))⟩)) ?_
      refine Qui.p rfl (Ev.strOf (l := T) sl.sl_uint8 it.uint8 st.string (hr := hsubT.r)) ?_
      refine Qui.p rfl Ev.move ?_
      refine Qui.p rfl Ev.move ?_
      refine Qui.p rfl (Ev.cut sl.sl_uint8 (hr := hr.r) (l := 0) (h := f + k) (hlo := rfl) (hhi := ⟨_, (by repeat (first | exact Look.here | apply Look.there (hne := rfl) | exact Look.const | apply Look.mix rfl | exact Look.arg0 | apply Look.args | exact Look.func))⟩)) ?_
      refine Qui.call rfl (fun w hw => textLast (hhead.up hw) (isBytes_take hB) (hL.upd hw)) ?_
      refine Qui.p rfl Ev.neStr ?_
      refine Qui.p rfl Ev.assign ?_
      refine Qui.nil ?_
      first | refine JC.c (ht := fun c45 => ?_) (hf := fun c45 => ?_) | refine JC.cb (ht := fun c45 => ?_) (hf := fun c45 => ?_)
      · -- then_t45
        have h4 : T ≠ lastL (l.take (f + k)) := fun h => c45 (by rw [h])
        refine JC.rs ?_
        refine Seq.p rfl Ev.move ?_
        refine Seq.p rfl (Ev.buildN [_, _, _, _] pl.text_line z.text_line) ?_
        refine Seq.storeN [_, _, _, _] sz.text_line (k := ?_)
        refine Seq.p rfl Ev.assign ?_
        refine Seq.nil ?_
        refine JC.ret ?_
        -- return 2
        show retQ _ _ _ _ _ _ _ _
        refine retB2 ag.text_line (H' := [nilC]) (hp := (by repeat (first | exact Part.refl _ | exact Part.nil _ | apply Part.here | apply Part.skip))) (hpost := ?_)
        rw [readF_trail hh hs1 hs2 (by rw [hTg]; exact hcc) (by rw [hTg]; exact h4)]
        exact ⟨none, 0, rfl, rfl⟩
      · -- else_t45
        have h4 : ¬ T ≠ lastL (l.take (f + k)) := fun h => h ((strOf_inj hBT (isBytes_last _)).1 (Classical.not_not.1 c45))
        have hrd := readF_parts hh hs1 hs2 (by rw [hTg]; exact hcc) (by rw [hTg]; exact h4)
        have hb1 : l[f + k - 1]! = 1 := Classical.not_not.1 fun h => hcc (.inr (.inr h))
        refine JC.skip ?_
        refine JC.seq ?_
        refine JC.rs ?_
        refine Seq.p rfl Ev.move ?_
        refine Seq.p rfl Ev.assign ?_
        refine Seq.nil ?_
        refine JC.blk ?_
        refine JC.part (H' := [lineC b4 ⟨#[]⟩ (.slice none 0 0) ((f + k + 7 : Nat) : Int) 0, tagsC (.slice none 0 0) [], lineC b2 ⟨#[]⟩ (.slice none 0 0) 0 0, nilC]) ⟨[], (List.Perm.swap _ _ _).cons _⟩ ?_
        refine JC.loop (α := Nat) (I := fun p e1 H1 => ∃ kind A c xs, Has [3, 8, 9, 10, 60, 61, 62, 63, 64, 65, 66, 67, 68, 69, 70, 71, 72, 73, 74, 75, 76, 77, 78, 79, 80, 81, 82, 83, 84, 85, 86] [(8, .int .i64 (p : Int))] _ e1 ∧ H1 = [lineC b4 kind (.slice A xs.length c) ((f + k + 7 : Nat) : Int) 0, tagsC (.slice A xs.length c) xs, lineC b2 ⟨#[]⟩ (.slice none 0 0) 0 0, nilC] ∧ f ≤ p ∧ p ≤ f + k ∧ xs.length ≤ 64 ∧ partsF l f (f + k) p kind xs = partsF l f (f + k) f ⟨#[]⟩ []) (μ := fun p => f + k - p) f ⟨⟨#[]⟩, none, 0, [], Has.mk Off.refl (allLook_cons (by repeat (first | exact Look.here | apply Look.there (hne := rfl) | exact Look.const | apply Look.mix rfl | exact Look.arg0 | apply Look.args | exact Look.func)) allLook_nil), rfl, by omega, by omega, by simp, rfl⟩ ?_
        rintro p _ _ ⟨kind, A, c, xs, ⟨u, rfl⟩, rfl, hfp, hpt, hx, hq⟩; dsimp only [setL]
        refine JC.seq ?_
        refine JC.rs ?_
        refine Seq.p rfl Ev.move ?_
        refine Seq.p rfl Ev.move ?_
        refine Seq.p rfl Ev.lt ?_
        refine Seq.nil ?_
        first | refine JC.c (ht := fun c62 => ?_) (hf := fun c62 => ?_) | refine JC.cb (ht := fun c62 => ?_) (hf := fun c62 => ?_)
        · -- then_t62
          have hp : p < f + k := by omega
          have hin := first_in hp (by omega) hb1
          have hlen : (l.drop p).length = l.length - p := List.length_drop ..
          have hFl := fieldAt_len (l := l) (p := p)
          have hsubD : RSl byteEnc 1 w [] (subSl v p l.length 1) (l.drop p) := by
            have h2 := hr.sub (lo := p) (hi := l.length) (by omega) (by omega)
            rwa [List.take_of_length_le (by rw [hlen]; omega)] at h2
          have hsubF : RSl byteEnc 1 w [] (subSl v p (p + firstF 1 (l.drop p)) 1) (fieldAt l p) := by
            have h2 := hr.sub (lo := p) (hi := p + firstF 1 (l.drop p)) (by omega) (by omega)
            rwa [show p + firstF 1 (l.drop p) - p = firstF 1 (l.drop p) by omega] at h2
          obtain ⟨A3, c3, hv3, hc3, hA3⟩ := hsubD.shape
          have hsubD2 := hsubD
          rw [hv3] at hsubD2
          refine JC.skip ?_
          refine JC.blk ?_
          refine JC.rs ?_
          refine Seq.p rfl Ev.move ?_
          refine Seq.p rfl Ev.move ?_
          refine Seq.p rfl Ev.move ?_
          refine Seq.p rfl (Ev.cut sl.sl_uint8 (hr := hr.r) (l := p) (h := l.length) (hlo := ⟨_, (by repeat (first | exact Look.here | apply Look.there (hne := rfl) | exact Look.const | apply Look.mix rfl | exact Look.arg0 | apply Look.args | exact Look.func))⟩) (hhi := rfl)) ?_
          rw [hv3]
          refine Seq.callP (v := .int .i64 (firstF 1 (l.drop p) : Int)) rfl (fun w' hw => by have h2 := textIndexByte (hsubD2.up hw) (by intro h0; rw [h0] at hlen; simp at hlen; omega) (isBytes_drop hB); rwa [if_pos (by omega)] at h2) ?_
          refine Seq.p rfl (Ev.addN (m := p) (c := firstF 1 (l.drop p))) ?_
          refine Seq.p rfl Ev.assign ?_
          refine Seq.nil ?_
          refine JC.seq ?_
          refine JC.rs ?_
          refine Seq.p rfl Ev.move ?_
          refine Seq.p rfl Ev.move ?_
          refine Seq.p rfl Ev.move ?_
          refine Seq.p rfl (Ev.cut sl.sl_uint8 (hr := hr.r) (l := p) (h := p + firstF 1 (l.drop p)) (hlo := ⟨_, (by repeat (first | exact Look.here | apply Look.there (hne := rfl) | exact Look.const | apply Look.mix rfl | exact Look.arg0 | apply Look.args | exact Look.func))⟩) (hhi := ⟨_, (by repeat (first | exact Look.here | apply Look.there (hne := rfl) | exact Look.const | apply Look.mix rfl | exact Look.arg0 | apply Look.args | exact Look.func))⟩)) ?_
          refine Seq.p rfl (Ev.strOf (l := fieldAt l p) sl.sl_uint8 it.uint8 st.string (hr := hsubF.r)) ?_
          refine Seq.p rfl Ev.move ?_
          refine Seq.p rfl Ev.move ?_
          refine Seq.p rfl Ev.eq ?_
          rw [show decide ((p : Int) = (f : Int)) = decide (p = f) by rw [decide_eq_decide]; omega]
          refine Seq.call rfl (fun w' hw => textTake (isBytes_take (isBytes_drop hB)) (by omega) hx hL (hw.part (Part.here (Part.here (Part.nil _))))) (F := [lineC b2 ⟨#[]⟩ (.slice none 0 0) 0 0, nilC]) (List.Perm.refl _) ?_
          have hxx := takeF_len (F := fieldAt l p) (first := decide (p = f)) (kind := kind) hx
          obtain ⟨e1, kind1, xs1, htk⟩ : ∃ a b c, takeF (fieldAt l p) (decide (p = f)) kind xs = (a, b, c) := ⟨_, _, _, rfl⟩
          rw [htk] at hxx ⊢
          rintro _ _ ⟨A1, c1, rfl, rfl⟩
          simp only [List.cons_append, List.nil_append] at hxx ⊢
          refine Seq.p rfl Ev.assign ?_
          refine Seq.nil ?_
          refine JC.rs ?_
          refine Seq.p rfl Ev.move ?_
          refine Seq.p rfl Ev.ne ?_
          refine Seq.nil ?_
          first | refine JC.c (ht := fun c79 => ?_) (hf := fun c79 => ?_) | refine JC.cb (ht := fun c79 => ?_) (hf := fun c79 => ?_)
          · -- then_t79
            refine JC.rs ?_
            refine Seq.p rfl Ev.move ?_
            refine Seq.p rfl (Ev.faB fd.text_line_2) ?_
            refine Seq.p rfl (Ev.ldB sc.int) ?_
            refine Seq.p rfl (Ev.buildN [_, _, _, _] pl.text_line z.text_line) ?_
            refine Seq.p rfl Ev.move ?_
            refine Seq.storeN [_, _, _, _] sz.text_line (k := ?_)
            refine Seq.p rfl Ev.assign ?_
            refine Seq.nil ?_
            refine JC.ret ?_
            -- return 3
            show retQ _ _ _ _ _ _ _ _
            refine retB2 ag.text_line (H' := [nilC]) (hp := (by repeat (first | exact Part.refl _ | exact Part.nil _ | apply Part.here | apply Part.skip))) (hpost := ?_)
            rw [hrd, ← hq, partsF_bad hp htk c79]
            exact ⟨none, 0, by unfold lineA partA; simp only; rw [if_neg c79]; rfl, rfl⟩
          · -- else_t79
            obtain rfl : e1 = 0 := Classical.not_not.1 c79
            rw [partsF_step hp htk] at hq
            refine JC.skip ?_
            refine JC.reg ?_
            refine Seq.p rfl Ev.move ?_
            refine Seq.p rfl (by first | exact Ev.inc | exact Ev.add) ?_
            refine Seq.p rfl Ev.assign ?_
            refine Seq.nil ?_
            exact ⟨p + firstF 1 (l.drop p) + 1, _, Part.refl _, ⟨kind1, A1, c1, xs1, Has.mk (by repeat (first | refine Off.upd ?_ rfl | exact Off.mix | refine Off.mix2 ?_ rfl | exact Off.refl)) (allLook_cons (by repeat (first | exact Look.here | apply Look.there (hne := rfl) | exact Look.const | apply Look.mix rfl | exact Look.arg0 | apply Look.args | exact Look.func)) allLook_nil), rfl, by omega, by omega, hxx, hq⟩, by omega⟩
        · -- else_t62
          rw [partsF_end (by omega)] at hq
          refine JC.exit ?_ -- 1
          refine JC.rs ?_
          refine Seq.p rfl (Ev.ldBA ag.text_line) ?_
          refine Seq.storeN [_, _, _, _] sz.text_line (k := ?_)
          refine Seq.p rfl Ev.assign ?_
          refine Seq.nil ?_
          refine JC.ret ?_
          -- return 4
          show retQ _ _ _ _ _ _ _ _
          refine retB2 ag.text_line (H' := [tagsC (.slice A xs.length c) xs]) (hp := (by repeat (first | exact Part.refl _ | exact Part.nil _ | apply Part.here | apply Part.skip))) (hpost := ?_)
          rw [hrd, ← hq]
          exact ⟨A, c, rfl, rfl⟩
set_option maxHeartbeats 1000000 in
set_option maxRecDepth 100000 in
theorem textDecode {w : World} {v : Value} {l : List Int} (hr : RSl byteEnc 1 w [] v l) (hB : isBytes l) (hl : l.length ≤ 281474976710656) (hL : Laid w) :
    Spec Go.Proofs.Tryd.prog 17 #[v] w [] (fun u H' => ∃ A c, u = .tuple #[.string (readF l).kind, .slice A (readF l).tags.length c, .int .i64 (readF l).place, .int .i64 (readF l).why] ∧ H' = [tagsC (.slice A (readF l).tags.length c) (readF l).tags]) := by
  refine Spec.enter (fn := Go.Proofs.Tryd.f17) (n := 24) [v] Go.Proofs.Tryd.func17 (by kernel_rfl) rfl Go.Proofs.Tryd.ntmps17 Go.Proofs.Tryd.results17 rfl (Own.nil _) ?_
  refine JC.re (fun w h => h.nilOwn 30 2) ?_
  refine JC.rs ?_
  refine Seq.p rfl Ev.assign ?_
  refine Seq.p rfl Ev.assign ?_
  refine Seq.p rfl Ev.assign ?_
  refine Seq.p rfl Ev.assign ?_
  refine Seq.nil ?_
  refine JC.rs ?_
  refine Seq.p rfl Ev.move ?_
  refine Seq.call rfl (fun w' hw => textRead (hr.up hw) hB hl (hL.upd hw)) (F := _) (by exact List.Perm.refl _) ?_
  rintro _ _ ⟨A1, c1, rfl, rfl⟩
  simp only [lineA]
  refine Seq.p rfl Ev.move ?_
  refine Seq.p rfl Ev.extract ?_
  refine Seq.p rfl Ev.extract ?_
  refine Seq.alloc (cs := [_, _, _, _]) (hz := z.text_line) (k := ?_); intro b6
  refine Seq.storeN [_, _, _, _] sz.text_line (k := ?_)
  refine Seq.p rfl Ev.assign ?_
  refine Seq.nil ?_
  refine JC.seq ?_
  refine JC.rs ?_
  refine Seq.p rfl Ev.move ?_
  refine Seq.p rfl Ev.ne ?_
  refine Seq.nil ?_
  first | refine JC.c (ht := fun c14 => ?_) (hf := fun c14 => ?_) | refine JC.cb (ht := fun c14 => ?_) (hf := fun c14 => ?_)
  · -- then_t14
    refine JC.qs mixed (by kernel_rfl) ?_
    refine Qui.p rfl (Ev.faB fd.text_line_3) ?_
    refine Qui.p rfl (Ev.ldB sc.int) ?_
    refine Qui.p rfl Ev.move ?_
    refine Qui.p rfl Ev.assign ?_
    refine Qui.p rfl Ev.assign ?_
    refine Qui.p rfl Ev.assign ?_
    refine Qui.p rfl Ev.assign ?_
    refine Qui.nil ?_
    refine JC.ret ?_
    -- return 0
    show retQ _ _ _ _ _ _ _ _
    refine retI (RVs.t (hs := (RVs.t (hs := (RVs.t (hs := (RVs.t (hs := RVs.nil)))))))) (H' := [nilC]) (by repeat (first | exact Part.refl _ | exact Part.nil _ | apply Part.here | apply Part.skip)) ?_
    have h1 := readF_bad_form c14
    rw [h1.1, h1.2]
    exact ⟨none, 0, by rw [if_neg c14]; rfl, rfl⟩
  · -- else_t14
    refine JC.skip ?_
    refine JC.qs mixed (by kernel_rfl) ?_
    refine Qui.p rfl (Ev.faB fd.text_line_0) ?_
    refine Qui.p rfl (Ev.ldB sc.string) ?_
    refine Qui.p rfl (Ev.faB fd.text_line_1) ?_
    refine Qui.p rfl (Ev.ldB sc.sl_api_Tag) ?_
    refine Qui.p rfl (Ev.faB fd.text_line_2) ?_
    refine Qui.p rfl (Ev.ldB sc.int) ?_
    refine Qui.p rfl Ev.assign ?_
    refine Qui.p rfl Ev.assign ?_
    refine Qui.p rfl Ev.assign ?_
    refine Qui.p rfl Ev.assign ?_
    refine Qui.nil ?_
    refine JC.ret ?_
    -- return 1
    show retQ _ _ _ _ _ _ _ _
    refine retI (RVs.t (hs := (RVs.t (hs := (RVs.t (hs := (RVs.t (hs := RVs.nil)))))))) (H' := [tagsC (.slice A1 (readF l).tags.length c1) (readF l).tags]) (by repeat (first | exact Part.refl _ | exact Part.nil _ | apply Part.here | apply Part.skip)) ?_
    have h1 := Classical.not_not.1 c14
    rw [readF_ok_place h1, h1]
    exact ⟨A1, c1, rfl, rfl⟩
end Go.Rx
