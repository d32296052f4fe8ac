/- The law bourselaw03.TextDecodes gives true. -/
import Derived.Test.YtcggppjpnepoiaaDoorU5
namespace Go.Rx
open Go Go.RowKit Go.Lib Go.Proofs.YtcggppjpnepoiaaDoor
set_option linter.unusedVariables false
set_option linter.unusedSimpArgs false
theorem partsF_tags {l : List Int} {f to : Nat} {kind' : ByteArray} {ys : List Tg} {N : Nat} (hN : l.length ≤ N) : ∀ {p : Nat} {kind : ByteArray} {xs : List Tg}, (∀ t ∈ xs, t.value.size ≤ N) → xs.length ≤ 64 → partsF l f to p kind xs = .ok kind' ys → (∀ t ∈ ys, t.value.size ≤ N) ∧ ys.length ≤ 64 := by
  intro p kind xs hx h64 h
  generalize hd : to - p = d
  induction d using Nat.strongRecOn generalizing p kind xs with
  | _ d ih =>
    rw [partsF] at h
    split at h
    · split at h
      · cases h
      · refine ih (to - (p + firstF 1 (l.drop p) + 1)) (by omega) ?_ (takeF_len h64) h rfl
        have hFl := fieldAt_len (l := l) (p := p)
        have hle := firstF_le 1 (l.drop p)
        rw [List.length_drop] at hle
        have hv : (fieldV (fieldAt l p)).size ≤ N := by
          unfold fieldV
          rw [strOf_size, List.length_drop]
          omega
        unfold takeF
        split
        · exact hx
        · split
          · split <;> exact hx
          · split
            · exact hx
            · split
              · exact hx
              · intro t ht
                rcases List.mem_append.1 ht with ht | ht
                · exact hx t ht
                · rw [List.mem_singleton.1 ht]
                  exact hv
    · cases h
      exact ⟨hx, h64⟩
theorem readF_tags {l : List Int} {N : Nat} (hN : l.length ≤ N) : (∀ t ∈ (readF l).tags, t.value.size ≤ N) ∧ (readF l).tags.length ≤ 64 := by
  rcases readF_cases l with ⟨a, c, h, _⟩ | ⟨f, k, _, h⟩
  · rw [h]; exact ⟨fun t ht => (by cases ht), (Nat.zero_le _)⟩
  · rw [h]
    cases hp : partsF l f (f + k) f ⟨#[]⟩ [] with
    | bad p e => exact ⟨fun t ht => (by cases ht), (Nat.zero_le _)⟩
    | ok kind xs => exact partsF_tags hN (fun t ht => (by cases ht)) (by decide) hp
theorem lentSub {w : World} {C : List Chunk} {v : Value} {l : List Int} (h : RSl byteEnc 1 w C v (l ++ markN 32)) : RSl byteEnc 1 w C (subSl v 0 l.length 1) l := by
  have h2 := h.sub (lo := 0) (hi := l.length) (Nat.zero_le _) (by rw [List.length_append]; omega)
  rwa [List.drop_zero, Nat.sub_zero, List.take_left] at h2
theorem dec7 : decDigits 7 = [55] := by rw [decDigits_one (by decide)]; rfl
/-- What was lent, all of it: what a call handed on may be cut to its beginning. -/
theorem lentCut {w0 w : World} {Cs H : List Chunk} {i : Nat} {A : Option Addr} {c : Nat} {l : List Int} (h : Upd w0 w Cs H) (hH : At H i (bytesC (.slice A (l.length + 32) c) (l ++ markN 32))) :
    Upd w0 w Cs (H.set i (bytesC (subSl (.slice A (l.length + 32) c) 0 l.length 1) l)) := by
  have h2 := Upd.reslice (enc := byteEnc) (lo := 0) (hi := l.length) h hH (fun _ => rfl) (Nat.zero_le _) (by rw [List.length_append]; omega)
  rwa [List.drop_zero, Nat.sub_zero, List.take_left] at h2
set_option maxHeartbeats 4000000 in
set_option maxRecDepth 100000 in
theorem lawDecodes {w : World} {v : Value} {l : List Int} {tag : Int} (hr : RSl byteEnc 1 w [] v l) (hB : isBytes l) (hl : l.length ≤ 140737488351232) (hL : Laid w) :
    Spec Go.Proofs.Tryd.prog 5 #[v, .int .i64 tag] w [] (fun u _ => u = .bool true) := by
  have hal : (l ++ markN 32).length = l.length + 32 := by rw [List.length_append, markN_len]
  obtain ⟨hts, htl⟩ := readF_tags (l := l) (N := 281474976710656) (by omega)
  have hl2 : l.length ≤ 281474976710656 := by omega
  obtain ⟨s1, b1, hv1⟩ := valueV_form (valueF (readF l).tags tag)
  obtain ⟨n1, c1, hn1⟩ := numV_form (valueF (readF l).tags tag)
  have hd7 := fun (w : World) (hL : Laid w) => textDecimal (w := w) (u := 7) (by decide) hL
  rw [dec7] at hd7
  refine Spec.enter (fn := Go.Proofs.Tryd.f5) (n := 126) [v, .int .i64 tag] Go.Proofs.Tryd.func5 (by kernel_rfl) rfl Go.Proofs.Tryd.ntmps5 Go.Proofs.Tryd.results5 rfl (Own.nil _) ?_
  refine JC.rs ?_
  refine Seq.p rfl Ev.assign ?_
  refine Seq.nil ?_
  refine JC.rs ?_
  refine Seq.p rfl Ev.move ?_
  refine Seq.call rfl (fun w hw => lawLent (hr.up hw) hl) (F := _) (by exact List.Perm.refl _) ?_
  rintro _ _ ⟨A1, q1, rfl, rfl⟩
  simp only [List.cons_append, List.nil_append]
  refine Seq.p rfl Ev.move ?_
  refine Seq.p rfl Ev.extract ?_
  refine Seq.p rfl Ev.extract ?_
  refine Seq.p rfl Ev.assign ?_
  refine Seq.p rfl Ev.assign ?_
  refine Seq.nil ?_
  refine JC.rs ?_
  refine Seq.p rfl Ev.move ?_
  refine Seq.call rfl (fun w hw => textDecode (lentSub (v := .slice A1 (l.length + 32) q1) (RAt.up (RAt.own (enc := byteEnc) (xs := l ++ markN 32)) hw)) hB hl2 (hL.upd hw)) (F := _) (by exact List.Perm.refl _) ?_
  rintro _ _ ⟨A2, q2, rfl, rfl⟩
  simp only [List.cons_append, List.nil_append]
  refine Seq.p rfl Ev.move ?_
  refine Seq.p rfl Ev.extract ?_
  refine Seq.p rfl Ev.extract ?_
  refine Seq.p rfl Ev.extract ?_
  refine Seq.p rfl Ev.extract ?_
  refine Seq.p rfl Ev.assign ?_
  refine Seq.p rfl Ev.assign ?_
  refine Seq.p rfl Ev.assign ?_
  refine Seq.p rfl Ev.assign ?_
  refine Seq.nil ?_
  refine JC.rs ?_
  refine Seq.p rfl Ev.move ?_
  refine Seq.call rfl (fun w hw => refDecode (hr.up hw) hB hl2) (F := _) (by exact List.Perm.refl _) ?_
  rintro _ _ ⟨A3, q3, rfl, rfl⟩
  simp only [List.cons_append, List.nil_append]
  refine Seq.p rfl Ev.move ?_
  refine Seq.p rfl Ev.extract ?_
  refine Seq.p rfl Ev.extract ?_
  refine Seq.p rfl Ev.extract ?_
  refine Seq.p rfl Ev.extract ?_
  refine Seq.p rfl Ev.assign ?_
  refine Seq.p rfl Ev.assign ?_
  refine Seq.p rfl Ev.assign ?_
  refine Seq.p rfl Ev.assign ?_
  refine Seq.nil ?_
  refine JC.seq ?_
  refine JC.rs ?_
  refine Seq.p rfl Ev.move ?_
  refine Seq.p rfl Ev.move ?_
  refine Seq.p rfl Ev.neStr ?_
  refine Seq.p rfl Ev.move ?_
  refine Seq.orG (D := [45, 46, 47, 48, 49, 50]) (d := 45) (t := 50) (k := 5) (hn := fun h45 => ?_) (hx := ?_)
  · repeat (first | refine Seq.gn rfl rfl rfl rfl ?_ | refine Seq.gu rfl rfl rfl ?_)
    refine Seq.p rfl Ev.pickT ?_
    exact Seq.nil ⟨rfl, (by repeat (first | with_reducible exact Off.refl | refine Off.upd ?_ rfl | exact Off.mix | refine Off.mix2 ?_ rfl)), Look.here⟩
  apply Exists.intro
  refine ⟨fun h45 => ?_, fun u50 => ?_⟩
  · try simp only [decide_eq_true_eq, decide_eq_false_iff_not, Bool.and_eq_true, Bool.or_eq_true, Bool.not_eq_true', Bool.not_eq_false', Bool.or_eq_false_iff, Bool.and_eq_false_imp] at h45
    refine Seq.gy rfl rfl rfl ?_
    refine Seq.p rfl Ev.move ?_
    refine Seq.gy rfl rfl rfl ?_
    refine Seq.p rfl Ev.move ?_
    refine Seq.gy rfl rfl rfl ?_
    refine Seq.callP rfl (fun w hw => lawTags (RAt.up (RAt.own (enc := Tg.enc) (xs := (readF l).tags)) hw) (RAt.up (RAt.own (enc := Tg.enc) (xs := (readF l).tags)) hw)) ?_
    refine Seq.gy rfl rfl rfl ?_
    refine Seq.p rfl Ev.not ?_
    refine Seq.p rfl Ev.pickF ?_
    exact Seq.nil ⟨rfl, (by repeat (first | with_reducible exact Off.refl | refine Off.upd ?_ rfl | exact Off.mix | refine Off.mix2 ?_ rfl)), Look.here⟩
  refine Seq.p rfl Ev.move ?_
  refine Seq.orG (D := [51, 52, 53, 54, 55]) (d := 51) (t := 55) (k := 4) (hn := fun h51 => ?_) (hx := ?_)
  · repeat (first | refine Seq.gn rfl rfl rfl rfl ?_ | refine Seq.gu rfl rfl rfl ?_)
    refine Seq.p rfl Ev.pickT ?_
    exact Seq.nil ⟨rfl, (by repeat (first | with_reducible exact Off.refl | refine Off.upd ?_ rfl | exact Off.mix | refine Off.mix2 ?_ rfl)), Look.here⟩
  apply Exists.intro
  refine ⟨fun h51 => ?_, fun u55 => ?_⟩
  · try simp only [decide_eq_true_eq, decide_eq_false_iff_not, Bool.and_eq_true, Bool.or_eq_true, Bool.not_eq_true', Bool.not_eq_false', Bool.or_eq_false_iff, Bool.and_eq_false_imp] at h51
    refine Seq.gy rfl rfl rfl ?_
    refine Seq.p rfl Ev.move ?_
    refine Seq.gy rfl rfl rfl ?_
    refine Seq.p rfl Ev.move ?_
    refine Seq.gy rfl rfl rfl ?_
    refine Seq.p rfl Ev.ne ?_
    refine Seq.p rfl Ev.pickF ?_
    exact Seq.nil ⟨rfl, (by repeat (first | with_reducible exact Off.refl | refine Off.upd ?_ rfl | exact Off.mix | refine Off.mix2 ?_ rfl)), Look.here⟩
  refine Seq.p rfl Ev.move ?_
  refine Seq.orG (D := [56, 57, 58, 59, 60]) (d := 56) (t := 60) (k := 4) (hn := fun h56 => ?_) (hx := ?_)
  · repeat (first | refine Seq.gn rfl rfl rfl rfl ?_ | refine Seq.gu rfl rfl rfl ?_)
    refine Seq.p rfl Ev.pickT ?_
    exact Seq.nil ⟨rfl, (by repeat (first | with_reducible exact Off.refl | refine Off.upd ?_ rfl | exact Off.mix | refine Off.mix2 ?_ rfl)), Look.here⟩
  apply Exists.intro
  refine ⟨fun h56 => ?_, fun u60 => ?_⟩
  · try simp only [decide_eq_true_eq, decide_eq_false_iff_not, Bool.and_eq_true, Bool.or_eq_true, Bool.not_eq_true', Bool.not_eq_false', Bool.or_eq_false_iff, Bool.and_eq_false_imp] at h56
    refine Seq.gy rfl rfl rfl ?_
    refine Seq.p rfl Ev.move ?_
    refine Seq.gy rfl rfl rfl ?_
    refine Seq.p rfl Ev.move ?_
    refine Seq.gy rfl rfl rfl ?_
    refine Seq.p rfl Ev.ne ?_
    refine Seq.p rfl Ev.pickF ?_
    exact Seq.nil ⟨rfl, (by repeat (first | with_reducible exact Off.refl | refine Off.upd ?_ rfl | exact Off.mix | refine Off.mix2 ?_ rfl)), Look.here⟩
  refine Seq.p rfl Ev.move ?_
  refine Seq.orG (D := [61, 62, 63, 64, 65, 66]) (d := 61) (t := 66) (k := 5) (hn := fun h61 => ?_) (hx := ?_)
  · repeat (first | refine Seq.gn rfl rfl rfl rfl ?_ | refine Seq.gu rfl rfl rfl ?_)
    refine Seq.p rfl Ev.pickT ?_
    exact Seq.nil ⟨rfl, (by repeat (first | with_reducible exact Off.refl | refine Off.upd ?_ rfl | exact Off.mix | refine Off.mix2 ?_ rfl)), Look.here⟩
  apply Exists.intro
  refine ⟨fun h61 => ?_, fun u66 => ?_⟩
  · try simp only [decide_eq_true_eq, decide_eq_false_iff_not, Bool.and_eq_true, Bool.or_eq_true, Bool.not_eq_true', Bool.not_eq_false', Bool.or_eq_false_iff, Bool.and_eq_false_imp] at h61
    refine Seq.gy rfl rfl rfl ?_
    refine Seq.p rfl Ev.move ?_
    refine Seq.gy rfl rfl rfl ?_
    refine Seq.p rfl Ev.move ?_
    refine Seq.gy rfl rfl rfl ?_
    refine Seq.callP rfl (fun w hw => lawKept (RAt.up (RAt.own (enc := byteEnc) (xs := l ++ markN 32)) hw) (hr.up hw) hl) ?_
    refine Seq.gy rfl rfl rfl ?_
    refine Seq.p rfl Ev.not ?_
    refine Seq.p rfl Ev.pickF ?_
    exact Seq.nil ⟨rfl, (by repeat (first | with_reducible exact Off.refl | refine Off.upd ?_ rfl | exact Off.mix | refine Off.mix2 ?_ rfl)), Look.here⟩
  refine Seq.p rfl Ev.move ?_
  refine Seq.orG (D := [67, 68, 69, 70, 71, 72, 73]) (d := 67) (t := 73) (k := 6) (hn := fun h67 => ?_) (hx := ?_)
  · repeat (first | refine Seq.gn rfl rfl rfl rfl ?_ | refine Seq.gu rfl rfl rfl ?_)
    refine Seq.p rfl Ev.pickT ?_
    exact Seq.nil ⟨rfl, (by repeat (first | with_reducible exact Off.refl | refine Off.upd ?_ rfl | exact Off.mix | refine Off.mix2 ?_ rfl)), Look.here⟩
  apply Exists.intro
  refine ⟨fun h67 => ?_, fun u73 => ?_⟩
  · try simp only [decide_eq_true_eq, decide_eq_false_iff_not, Bool.and_eq_true, Bool.or_eq_true, Bool.not_eq_true', Bool.not_eq_false', Bool.or_eq_false_iff, Bool.and_eq_false_imp] at h67
    refine Seq.gy rfl rfl rfl ?_
    refine Seq.p rfl Ev.move ?_
    refine Seq.gy rfl rfl rfl ?_
    refine Seq.callP rfl (fun w hw => textSum (lentSub (v := .slice A1 (l.length + 32) q1) (RAt.up (RAt.own (enc := byteEnc) (xs := l ++ markN 32)) hw)) hB) ?_
    refine Seq.gy rfl rfl rfl ?_
    refine Seq.p rfl Ev.move ?_
    refine Seq.gy rfl rfl rfl ?_
    refine Seq.callP rfl (fun w hw => refSum (hr.up hw) hB) ?_
    refine Seq.gy rfl rfl rfl ?_
    refine Seq.p rfl Ev.ne ?_
    refine Seq.p rfl Ev.pickF ?_
    exact Seq.nil ⟨rfl, (by repeat (first | with_reducible exact Off.refl | refine Off.upd ?_ rfl | exact Off.mix | refine Off.mix2 ?_ rfl)), Look.here⟩
  refine Seq.nil ?_
  first | refine JC.c (ht := fun c73 => ?_) (hf := fun c73 => ?_) | refine JC.cb (ht := fun c73 => ?_) (hf := fun c73 => ?_)
  · -- then_t73
    exfalso
    simp at c73
  · -- else_t73
    refine JC.skip ?_
    refine JC.rs ?_
    refine Seq.p rfl Ev.move ?_
    refine Seq.re (fun w h => lentCut h (At.s (At.s At.z))) ?_
    obtain ⟨A5, q5, h5⟩ : ∃ A c, subSl (.slice A1 (l.length + 32) q1) 0 l.length 1 = .slice A l.length c := ⟨_, _, rfl⟩
    rw [h5]
    refine Seq.call rfl (fun w hw => lawFull hl (hw.part (Part.skip (Part.skip (Part.here (Part.nil _))))).own) (F := [tagsC (.slice A3 (readF l).tags.length q3) (readF l).tags, tagsC (.slice A2 (readF l).tags.length q2) (readF l).tags]) (by exact List.perm_append_comm (l₁ := [_]) (l₂ := [_, _])) ?_
    rintro _ _ rfl
    simp only [List.nil_append]
    refine Seq.nil ?_
    refine JC.seq ?_
    refine JC.rs ?_
    refine Seq.p rfl Ev.move ?_
    refine Seq.p rfl Ev.move ?_
    refine Seq.callP rfl (fun w hw => lawTags (RAt.up (RAt.own (enc := Tg.enc) (xs := (readF l).tags)) hw) (RAt.up (RAt.own (enc := Tg.enc) (xs := (readF l).tags)) hw)) ?_
    refine Seq.p rfl Ev.not ?_
    refine Seq.nil ?_
    first | refine JC.c (ht := fun c79 => ?_) (hf := fun c79 => ?_) | refine JC.cb (ht := fun c79 => ?_) (hf := fun c79 => ?_)
    · -- then_t79
      exfalso
      simp at c79
    · -- else_t79
      refine JC.skip ?_
      refine JC.rs ?_
      refine Seq.p rfl Ev.move ?_
      refine Seq.p rfl Ev.move ?_
      refine Seq.callP rfl (fun w hw => hv1 ▸ textValue (RAt.up (RAt.own (enc := Tg.enc) (xs := (readF l).tags)) hw)) ?_
      refine Seq.p rfl Ev.move ?_
      refine Seq.p rfl Ev.extract ?_
      refine Seq.p rfl Ev.extract ?_
      refine Seq.p rfl Ev.assign ?_
      refine Seq.p rfl Ev.assign ?_
      refine Seq.nil ?_
      refine JC.rs ?_
      refine Seq.p rfl Ev.move ?_
      refine Seq.p rfl Ev.move ?_
      refine Seq.callP rfl (fun w hw => hv1 ▸ refValue (RAt.up (RAt.own (enc := Tg.enc) (xs := (readF l).tags)) hw)) ?_
      refine Seq.p rfl Ev.move ?_
      refine Seq.p rfl Ev.extract ?_
      refine Seq.p rfl Ev.extract ?_
      refine Seq.p rfl Ev.assign ?_
      refine Seq.p rfl Ev.assign ?_
      refine Seq.nil ?_
      refine JC.rs ?_
      refine Seq.p rfl Ev.move ?_
      refine Seq.p rfl Ev.move ?_
      refine Seq.callP rfl (fun w hw => hn1 ▸ textNumber (RAt.up (RAt.own (enc := Tg.enc) (xs := (readF l).tags)) hw) hts (hL.upd hw)) ?_
      refine Seq.p rfl Ev.move ?_
      refine Seq.p rfl Ev.extract ?_
      refine Seq.p rfl Ev.extract ?_
      refine Seq.p rfl Ev.assign ?_
      refine Seq.p rfl Ev.assign ?_
      refine Seq.nil ?_
      refine JC.rs ?_
      refine Seq.p rfl Ev.move ?_
      refine Seq.p rfl Ev.move ?_
      refine Seq.callP rfl (fun w hw => hn1 ▸ refNumber (RAt.up (RAt.own (enc := Tg.enc) (xs := (readF l).tags)) hw)) ?_
      refine Seq.p rfl Ev.move ?_
      refine Seq.p rfl Ev.extract ?_
      refine Seq.p rfl Ev.extract ?_
      refine Seq.p rfl Ev.assign ?_
      refine Seq.p rfl Ev.assign ?_
      refine Seq.nil ?_
      refine JC.rs ?_
      refine Seq.p rfl Ev.move ?_
      refine Seq.p rfl Ev.move ?_
      refine Seq.p rfl Ev.eqStr ?_
      refine Seq.p rfl Ev.move ?_
      refine Seq.andG (D := [107, 108, 109, 110, 111]) (d := 107) (t := 111) (k := 4) (hn := fun h107 => ?_) (hx := ?_)
      · repeat (first | refine Seq.gn rfl rfl rfl rfl ?_ | refine Seq.gu rfl rfl rfl ?_)
        refine Seq.p rfl Ev.pickF ?_
        exact Seq.nil ⟨rfl, (by repeat (first | with_reducible exact Off.refl | refine Off.upd ?_ rfl | exact Off.mix | refine Off.mix2 ?_ rfl)), Look.here⟩
      apply Exists.intro
      refine ⟨fun h107 => ?_, fun u111 => ?_⟩
      · try simp only [decide_eq_true_eq, decide_eq_false_iff_not, Bool.and_eq_true, Bool.or_eq_true, Bool.not_eq_true', Bool.not_eq_false', Bool.or_eq_false_iff, Bool.and_eq_false_imp] at h107
        refine Seq.gy rfl rfl rfl ?_
        refine Seq.p rfl Ev.move ?_
        refine Seq.gy rfl rfl rfl ?_
        refine Seq.p rfl Ev.move ?_
        refine Seq.gy rfl rfl rfl ?_
        refine Seq.p rfl (Ev.eqB bl.bool) ?_
        refine Seq.p rfl Ev.pickT ?_
        exact Seq.nil ⟨rfl, (by repeat (first | with_reducible exact Off.refl | refine Off.upd ?_ rfl | exact Off.mix | refine Off.mix2 ?_ rfl)), Look.here⟩
      refine Seq.p rfl Ev.move ?_
      refine Seq.andG (D := [112, 113, 114, 115, 116]) (d := 112) (t := 116) (k := 4) (hn := fun h112 => ?_) (hx := ?_)
      · repeat (first | refine Seq.gn rfl rfl rfl rfl ?_ | refine Seq.gu rfl rfl rfl ?_)
        refine Seq.p rfl Ev.pickF ?_
        exact Seq.nil ⟨rfl, (by repeat (first | with_reducible exact Off.refl | refine Off.upd ?_ rfl | exact Off.mix | refine Off.mix2 ?_ rfl)), Look.here⟩
      apply Exists.intro
      refine ⟨fun h112 => ?_, fun u116 => ?_⟩
      · try simp only [decide_eq_true_eq, decide_eq_false_iff_not, Bool.and_eq_true, Bool.or_eq_true, Bool.not_eq_true', Bool.not_eq_false', Bool.or_eq_false_iff, Bool.and_eq_false_imp] at h112
        refine Seq.gy rfl rfl rfl ?_
        refine Seq.p rfl Ev.move ?_
        refine Seq.gy rfl rfl rfl ?_
        refine Seq.p rfl Ev.move ?_
        refine Seq.gy rfl rfl rfl ?_
        refine Seq.p rfl Ev.eq ?_
        refine Seq.p rfl Ev.pickT ?_
        exact Seq.nil ⟨rfl, (by repeat (first | with_reducible exact Off.refl | refine Off.upd ?_ rfl | exact Off.mix | refine Off.mix2 ?_ rfl)), Look.here⟩
      refine Seq.p rfl Ev.move ?_
      refine Seq.andG (D := [117, 118, 119, 120, 121]) (d := 117) (t := 121) (k := 4) (hn := fun h117 => ?_) (hx := ?_)
      · repeat (first | refine Seq.gn rfl rfl rfl rfl ?_ | refine Seq.gu rfl rfl rfl ?_)
        refine Seq.p rfl Ev.pickF ?_
        exact Seq.nil ⟨rfl, (by repeat (first | with_reducible exact Off.refl | refine Off.upd ?_ rfl | exact Off.mix | refine Off.mix2 ?_ rfl)), Look.here⟩
      apply Exists.intro
      refine ⟨fun h117 => ?_, fun u121 => ?_⟩
      · try simp only [decide_eq_true_eq, decide_eq_false_iff_not, Bool.and_eq_true, Bool.or_eq_true, Bool.not_eq_true', Bool.not_eq_false', Bool.or_eq_false_iff, Bool.and_eq_false_imp] at h117
        refine Seq.gy rfl rfl rfl ?_
        refine Seq.p rfl Ev.move ?_
        refine Seq.gy rfl rfl rfl ?_
        refine Seq.p rfl Ev.move ?_
        refine Seq.gy rfl rfl rfl ?_
        refine Seq.p rfl Ev.eq ?_
        refine Seq.p rfl Ev.pickT ?_
        exact Seq.nil ⟨rfl, (by repeat (first | with_reducible exact Off.refl | refine Off.upd ?_ rfl | exact Off.mix | refine Off.mix2 ?_ rfl)), Look.here⟩
      refine Seq.p rfl Ev.move ?_
      refine Seq.andG (D := [122, 123, 124, 125]) (d := 122) (t := 125) (k := 3) (hn := fun h122 => ?_) (hx := ?_)
      · repeat (first | refine Seq.gn rfl rfl rfl rfl ?_ | refine Seq.gu rfl rfl rfl ?_)
        refine Seq.p rfl Ev.pickF ?_
        exact Seq.nil ⟨rfl, (by repeat (first | with_reducible exact Off.refl | refine Off.upd ?_ rfl | exact Off.mix | refine Off.mix2 ?_ rfl)), Look.here⟩
      apply Exists.intro
      refine ⟨fun h122 => ?_, fun u125 => ?_⟩
      · try simp only [decide_eq_true_eq, decide_eq_false_iff_not, Bool.and_eq_true, Bool.or_eq_true, Bool.not_eq_true', Bool.not_eq_false', Bool.or_eq_false_iff, Bool.and_eq_false_imp] at h122
        refine Seq.gy rfl rfl rfl ?_
        refine Seq.callP rfl (fun w hw => hd7 w (hL.upd hw)) ?_
        refine Seq.gy rfl rfl rfl ?_
        refine Seq.p rfl Ev.eqStr ?_
        refine Seq.p rfl Ev.pickT ?_
        exact Seq.nil ⟨rfl, (by repeat (first | with_reducible exact Off.refl | refine Off.upd ?_ rfl | exact Off.mix | refine Off.mix2 ?_ rfl)), Look.here⟩
      refine Seq.p rfl Ev.assign ?_
      refine Seq.nil ?_
      refine JC.ret ?_
      -- return 0
      show retQ _ _ _ _ _ _ _ _
      refine ret1 (hp := Part.nil _) (hpost := ?_)
      simp
end Go.Rx
