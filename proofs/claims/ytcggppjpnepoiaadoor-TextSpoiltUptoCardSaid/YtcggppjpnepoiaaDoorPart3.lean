/- Parts of the proof. -/
import Derived.Test.YtcggppjpnepoiaaDoorPart2
import Derived.Test.YtcggppjpnepoiaaDoorPart1
import Derived.Test.YtcggppjpnepoiaaDoorRows
import Derived.Stop.LaidErr
import Derived.LaidLaws
import Derived.LaidHandle
import Derived.ChangeMaps5
import Derived.SizedLaws
import Derived.Test.YtcggppjpnepoiaaDoorRxL2
import Derived.Test.YtcggppjpnepoiaaDoorTie
import Derived.Test.YtcggppjpnepoiaaDoorCards
import Derived.SevenTiedAt
import Derived.Below
import Derived.ChangeOld
import Derived.ShutString
import Derived.ChangeSame
import Derived.ChangeVars
import Derived.JoinedOf
import Derived.Deep.DeepHandedRow
import Derived.Deep.DeepWitnessRowRef
set_option linter.unusedVariables false
set_option linter.unusedSimpArgs false
/- The law bourselaw03.TextDecodes gives true. -/
namespace Go.Rx
open Go Go.RowKit Go.Lib Go.Proofs.YtcggppjpnepoiaaDoor
set_option linter.unusedVariables false
set_option linter.unusedSimpArgs false
theorem partsF_tags {l : List Int} {f to : Nat} {kind' : ByteArray} {ys : List Tg} {N : Nat} (hN : l.length ≤ N) : ∀ {p : Nat} {kind : ByteArray} {xs : List Tg}, (∀ t ∈ xs, t.value.size ≤ N) → xs.length ≤ 64 → partsF l f to p kind xs = .ok kind' ys → (∀ t ∈ ys, t.value.size ≤ N) ∧ ys.length ≤ 64 := by
  intro p kind xs hx h64 h
  generalize hd : to - p = d
  induction d using Nat.strongRecOn generalizing p kind xs with
  | _ d ih =>
    rw [partsF] at h
    split at h
    · split at h
      · cases h
      · refine ih (to - (p + firstF 1 (l.drop p) + 1)) (by omega) ?_ (takeF_len h64) h rfl
        have hFl := fieldAt_len (l := l) (p := p)
        have hle := firstF_le 1 (l.drop p)
        rw [List.length_drop] at hle
        have hv : (fieldV (fieldAt l p)).size ≤ N := by
          unfold fieldV
          rw [strOf_size, List.length_drop]
          omega
        unfold takeF
        split
        · exact hx
        · split
          · split <;> exact hx
          · split
            · exact hx
            · split
              · exact hx
              · intro t ht
                rcases List.mem_append.1 ht with ht | ht
                · exact hx t ht
                · rw [List.mem_singleton.1 ht]
                  exact hv
    · cases h
      exact ⟨hx, h64⟩
theorem readF_tags {l : List Int} {N : Nat} (hN : l.length ≤ N) : (∀ t ∈ (readF l).tags, t.value.size ≤ N) ∧ (readF l).tags.length ≤ 64 := by
  rcases readF_cases l with ⟨a, c, h, _⟩ | ⟨f, k, _, h⟩
  · rw [h]; exact ⟨fun t ht => (by cases ht), (Nat.zero_le _)⟩
  · rw [h]
    cases hp : partsF l f (f + k) f ⟨#[]⟩ [] with
    | bad p e => exact ⟨fun t ht => (by cases ht), (Nat.zero_le _)⟩
    | ok kind xs => exact partsF_tags hN (fun t ht => (by cases ht)) (by decide) hp
theorem lentSub {w : World} {C : List Chunk} {v : Value} {l : List Int} (h : RSl byteEnc 1 w C v (l ++ markN 32)) : RSl byteEnc 1 w C (subSl v 0 l.length 1) l := by
  have h2 := h.sub (lo := 0) (hi := l.length) (Nat.zero_le _) (by rw [List.length_append]; omega)
  rwa [List.drop_zero, Nat.sub_zero, List.take_left] at h2
theorem dec7 : decDigits 7 = [55] := by rw [decDigits_one (by decide)]; rfl
/-- What was lent, all of it: what a call handed on may be cut to its beginning. -/
theorem lentCut {w0 w : World} {Cs H : List Chunk} {i : Nat} {A : Option Addr} {c : Nat} {l : List Int} (h : Upd w0 w Cs H) (hH : At H i (bytesC (.slice A (l.length + 32) c) (l ++ markN 32))) :
    Upd w0 w Cs (H.set i (bytesC (subSl (.slice A (l.length + 32) c) 0 l.length 1) l)) := by
  have h2 := Upd.reslice (enc := byteEnc) (lo := 0) (hi := l.length) h hH (fun _ => rfl) (Nat.zero_le _) (by rw [List.length_append]; omega)
  rwa [List.drop_zero, Nat.sub_zero, List.take_left] at h2
set_option maxHeartbeats 4000000 in
set_option maxRecDepth 100000 in
theorem lawDecodes {w : World} {v : Value} {l : List Int} {tag : Int} (hr : RSl byteEnc 1 w [] v l) (hB : isBytes l) (hl : l.length ≤ 140737488351232) (hL : Laid w) :
    Spec Go.Proofs.Tryd.prog 5 #[v, .int .i64 tag] w [] (fun u _ => u = .bool true) := by
  have hal : (l ++ markN 32).length = l.length + 32 := by rw [List.length_append, markN_len]
  obtain ⟨hts, htl⟩ := readF_tags (l := l) (N := 281474976710656) (by omega)
  have hl2 : l.length ≤ 281474976710656 := by omega
  obtain ⟨s1, b1, hv1⟩ := valueV_form (valueF (readF l).tags tag)
  obtain ⟨n1, c1, hn1⟩ := numV_form (valueF (readF l).tags tag)
  have hd7 := fun (w : World) (hL : Laid w) => textDecimal (w := w) (u := 7) (by decide) hL
  rw [dec7] at hd7
  refine Spec.enter (fn := Go.Proofs.Tryd.f5) (n := 126) [v, .int .i64 tag] Go.Proofs.Tryd.func5 (by kernel_rfl) rfl Go.Proofs.Tryd.ntmps5 Go.Proofs.Tryd.results5 rfl (Own.nil _) ?_
  refine JC.rs ?_
  refine Seq.p rfl Ev.assign ?_
  refine Seq.nil ?_
  refine JC.rs ?_
  refine Seq.p rfl Ev.move ?_
  refine Seq.call rfl (fun w hw => lawLent (hr.up hw) hl) (F := _) (by exact List.Perm.refl _) ?_
  rintro _ _ ⟨A1, q1, rfl, rfl⟩
  simp only [List.cons_append, List.nil_append]
  refine Seq.p rfl Ev.move ?_
  refine Seq.p rfl Ev.extract ?_
  refine Seq.p rfl Ev.extract ?_
  refine Seq.p rfl Ev.assign ?_
  refine Seq.p rfl Ev.assign ?_
  refine Seq.nil ?_
  refine JC.rs ?_
  refine Seq.p rfl Ev.move ?_
  refine Seq.call rfl (fun w hw => textDecode (lentSub (v := .slice A1 (l.length + 32) q1) (RAt.up (RAt.own (enc := byteEnc) (xs := l ++ markN 32)) hw)) hB hl2 (hL.upd hw)) (F := _) (by exact List.Perm.refl _) ?_
  rintro _ _ ⟨A2, q2, rfl, rfl⟩
  simp only [List.cons_append, List.nil_append]
  refine Seq.p rfl Ev.move ?_
  refine Seq.p rfl Ev.extract ?_
  refine Seq.p rfl Ev.extract ?_
  refine Seq.p rfl Ev.extract ?_
  refine Seq.p rfl Ev.extract ?_
  refine Seq.p rfl Ev.assign ?_
  refine Seq.p rfl Ev.assign ?_
  refine Seq.p rfl Ev.assign ?_
  refine Seq.p rfl Ev.assign ?_
  refine Seq.nil ?_
  refine JC.rs ?_
  refine Seq.p rfl Ev.move ?_
  refine Seq.call rfl (fun w hw => refDecode (hr.up hw) hB hl2) (F := _) (by exact List.Perm.refl _) ?_
  rintro _ _ ⟨A3, q3, rfl, rfl⟩
  simp only [List.cons_append, List.nil_append]
  refine Seq.p rfl Ev.move ?_
  refine Seq.p rfl Ev.extract ?_
  refine Seq.p rfl Ev.extract ?_
  refine Seq.p rfl Ev.extract ?_
  refine Seq.p rfl Ev.extract ?_
  refine Seq.p rfl Ev.assign ?_
  refine Seq.p rfl Ev.assign ?_
  refine Seq.p rfl Ev.assign ?_
  refine Seq.p rfl Ev.assign ?_
  refine Seq.nil ?_
  refine JC.seq ?_
  refine JC.rs ?_
  refine Seq.p rfl Ev.move ?_
  refine Seq.p rfl Ev.move ?_
  refine Seq.p rfl Ev.neStr ?_
  refine Seq.p rfl Ev.move ?_
  refine Seq.orG (D := [45, 46, 47, 48, 49, 50]) (d := 45) (t := 50) (k := 5) (hn := fun h45 => ?_) (hx := ?_)
  · repeat (first | refine Seq.gn rfl rfl rfl rfl ?_ | refine Seq.gu rfl rfl rfl ?_)
    refine Seq.p rfl Ev.pickT ?_
    exact Seq.nil ⟨rfl, (by repeat (first | with_reducible exact Off.refl | refine Off.upd ?_ rfl | exact Off.mix | refine Off.mix2 ?_ rfl)), Look.here⟩
  apply Exists.intro
  refine ⟨fun h45 => ?_, fun u50 => ?_⟩
  · try simp only [decide_eq_true_eq, decide_eq_false_iff_not, Bool.and_eq_true, Bool.or_eq_true, Bool.not_eq_true', Bool.not_eq_false', Bool.or_eq_false_iff, Bool.and_eq_false_imp] at h45
    refine Seq.gy rfl rfl rfl ?_
    refine Seq.p rfl Ev.move ?_
    refine Seq.gy rfl rfl rfl ?_
    refine Seq.p rfl Ev.move ?_
    refine Seq.gy rfl rfl rfl ?_
    refine Seq.callP rfl (fun w hw => lawTags (RAt.up (RAt.own (enc := Tg.enc) (xs := (readF l).tags)) hw) (RAt.up (RAt.own (enc := Tg.enc) (xs := (readF l).tags)) hw)) ?_
    refine Seq.gy rfl rfl rfl ?_
    refine Seq.p rfl Ev.not ?_
    refine Seq.p rfl Ev.pickF ?_
    exact Seq.nil ⟨rfl, (by repeat (first | with_reducible exact Off.refl | refine Off.upd ?_ rfl | exact Off.mix | refine Off.mix2 ?_ rfl)), Look.here⟩
  refine Seq.p rfl Ev.move ?_
  refine Seq.orG (D := [51, 52, 53, 54, 55]) (d := 51) (t := 55) (k := 4) (hn := fun h51 => ?_) (hx := ?_)
  · repeat (first | refine Seq.gn rfl rfl rfl rfl ?_ | refine Seq.gu rfl rfl rfl ?_)
    refine Seq.p rfl Ev.pickT ?_
    exact Seq.nil ⟨rfl, (by repeat (first | with_reducible exact Off.refl | refine Off.upd ?_ rfl | exact Off.mix | refine Off.mix2 ?_ rfl)), Look.here⟩
  apply Exists.intro
  refine ⟨fun h51 => ?_, fun u55 => ?_⟩
  · try simp only [decide_eq_true_eq, decide_eq_false_iff_not, Bool.and_eq_true, Bool.or_eq_true, Bool.not_eq_true', Bool.not_eq_false', Bool.or_eq_false_iff, Bool.and_eq_false_imp] at h51
    refine Seq.gy rfl rfl rfl ?_
    refine Seq.p rfl Ev.move ?_
    refine Seq.gy rfl rfl rfl ?_
    refine Seq.p rfl Ev.move ?_
    refine Seq.gy rfl rfl rfl ?_
    refine Seq.p rfl Ev.ne ?_
    refine Seq.p rfl Ev.pickF ?_
    exact Seq.nil ⟨rfl, (by repeat (first | with_reducible exact Off.refl | refine Off.upd ?_ rfl | exact Off.mix | refine Off.mix2 ?_ rfl)), Look.here⟩
  refine Seq.p rfl Ev.move ?_
  refine Seq.orG (D := [56, 57, 58, 59, 60]) (d := 56) (t := 60) (k := 4) (hn := fun h56 => ?_) (hx := ?_)
  · repeat (first | refine Seq.gn rfl rfl rfl rfl ?_ | refine Seq.gu rfl rfl rfl ?_)
    refine Seq.p rfl Ev.pickT ?_
    exact Seq.nil ⟨rfl, (by repeat (first | with_reducible exact Off.refl | refine Off.upd ?_ rfl | exact Off.mix | refine Off.mix2 ?_ rfl)), Look.here⟩
  apply Exists.intro
  refine ⟨fun h56 => ?_, fun u60 => ?_⟩
  · try simp only [decide_eq_true_eq, decide_eq_false_iff_not, Bool.and_eq_true, Bool.or_eq_true, Bool.not_eq_true', Bool.not_eq_false', Bool.or_eq_false_iff, Bool.and_eq_false_imp] at h56
    refine Seq.gy rfl rfl rfl ?_
    refine Seq.p rfl Ev.move ?_
    refine Seq.gy rfl rfl rfl ?_
    refine Seq.p rfl Ev.move ?_
    refine Seq.gy rfl rfl rfl ?_
    refine Seq.p rfl Ev.ne ?_
    refine Seq.p rfl Ev.pickF ?_
    exact Seq.nil ⟨rfl, (by repeat (first | with_reducible exact Off.refl | refine Off.upd ?_ rfl | exact Off.mix | refine Off.mix2 ?_ rfl)), Look.here⟩
  refine Seq.p rfl Ev.move ?_
  refine Seq.orG (D := [61, 62, 63, 64, 65, 66]) (d := 61) (t := 66) (k := 5) (hn := fun h61 => ?_) (hx := ?_)
  · repeat (first | refine Seq.gn rfl rfl rfl rfl ?_ | refine Seq.gu rfl rfl rfl ?_)
    refine Seq.p rfl Ev.pickT ?_
    exact Seq.nil ⟨rfl, (by repeat (first | with_reducible exact Off.refl | refine Off.upd ?_ rfl | exact Off.mix | refine Off.mix2 ?_ rfl)), Look.here⟩
  apply Exists.intro
  refine ⟨fun h61 => ?_, fun u66 => ?_⟩
  · try simp only [decide_eq_true_eq, decide_eq_false_iff_not, Bool.and_eq_true, Bool.or_eq_true, Bool.not_eq_true', Bool.not_eq_false', Bool.or_eq_false_iff, Bool.and_eq_false_imp] at h61
    refine Seq.gy rfl rfl rfl ?_
    refine Seq.p rfl Ev.move ?_
    refine Seq.gy rfl rfl rfl ?_
    refine Seq.p rfl Ev.move ?_
    refine Seq.gy rfl rfl rfl ?_
    refine Seq.callP rfl (fun w hw => lawKept (RAt.up (RAt.own (enc := byteEnc) (xs := l ++ markN 32)) hw) (hr.up hw) hl) ?_
    refine Seq.gy rfl rfl rfl ?_
    refine Seq.p rfl Ev.not ?_
    refine Seq.p rfl Ev.pickF ?_
    exact Seq.nil ⟨rfl, (by repeat (first | with_reducible exact Off.refl | refine Off.upd ?_ rfl | exact Off.mix | refine Off.mix2 ?_ rfl)), Look.here⟩
  refine Seq.p rfl Ev.move ?_
  refine Seq.orG (D := [67, 68, 69, 70, 71, 72, 73]) (d := 67) (t := 73) (k := 6) (hn := fun h67 => ?_) (hx := ?_)
  · repeat (first | refine Seq.gn rfl rfl rfl rfl ?_ | refine Seq.gu rfl rfl rfl ?_)
    refine Seq.p rfl Ev.pickT ?_
    exact Seq.nil ⟨rfl, (by repeat (first | with_reducible exact Off.refl | refine Off.upd ?_ rfl | exact Off.mix | refine Off.mix2 ?_ rfl)), Look.here⟩
  apply Exists.intro
  refine ⟨fun h67 => ?_, fun u73 => ?_⟩
  · try simp only [decide_eq_true_eq, decide_eq_false_iff_not, Bool.and_eq_true, Bool.or_eq_true, Bool.not_eq_true', Bool.not_eq_false', Bool.or_eq_false_iff, Bool.and_eq_false_imp] at h67
    refine Seq.gy rfl rfl rfl ?_
    refine Seq.p rfl Ev.move ?_
    refine Seq.gy rfl rfl rfl ?_
    refine Seq.callP rfl (fun w hw => textSum (lentSub (v := .slice A1 (l.length + 32) q1) (RAt.up (RAt.own (enc := byteEnc) (xs := l ++ markN 32)) hw)) hB) ?_
    refine Seq.gy rfl rfl rfl ?_
    refine Seq.p rfl Ev.move ?_
    refine Seq.gy rfl rfl rfl ?_
    refine Seq.callP rfl (fun w hw => refSum (hr.up hw) hB) ?_
    refine Seq.gy rfl rfl rfl ?_
    refine Seq.p rfl Ev.ne ?_
    refine Seq.p rfl Ev.pickF ?_
    exact Seq.nil ⟨rfl, (by repeat (first | with_reducible exact Off.refl | refine Off.upd ?_ rfl | exact Off.mix | refine Off.mix2 ?_ rfl)), Look.here⟩
  refine Seq.nil ?_
  first | refine JC.c (ht := fun c73 => ?_) (hf := fun c73 => ?_) | refine JC.cb (ht := fun c73 => ?_) (hf := fun c73 => ?_)
  · -- then_t73
    exfalso
    simp at c73
  · -- else_t73
    refine JC.skip ?_
    refine JC.rs ?_
    refine Seq.p rfl Ev.move ?_
    refine Seq.re (fun w h => lentCut h (At.s (At.s At.z))) ?_
    obtain ⟨A5, q5, h5⟩ : ∃ A c, subSl (.slice A1 (l.length + 32) q1) 0 l.length 1 = .slice A l.length c := ⟨_, _, rfl⟩
    rw [h5]
    refine Seq.call rfl (fun w hw => lawFull hl (hw.part (Part.skip (Part.skip (Part.here (Part.nil _))))).own) (F := [tagsC (.slice A3 (readF l).tags.length q3) (readF l).tags, tagsC (.slice A2 (readF l).tags.length q2) (readF l).tags]) (by exact List.perm_append_comm (l₁ := [_]) (l₂ := [_, _])) ?_
    rintro _ _ rfl
    simp only [List.nil_append]
    refine Seq.nil ?_
    refine JC.seq ?_
    refine JC.rs ?_
    refine Seq.p rfl Ev.move ?_
    refine Seq.p rfl Ev.move ?_
    refine Seq.callP rfl (fun w hw => lawTags (RAt.up (RAt.own (enc := Tg.enc) (xs := (readF l).tags)) hw) (RAt.up (RAt.own (enc := Tg.enc) (xs := (readF l).tags)) hw)) ?_
    refine Seq.p rfl Ev.not ?_
    refine Seq.nil ?_
    first | refine JC.c (ht := fun c79 => ?_) (hf := fun c79 => ?_) | refine JC.cb (ht := fun c79 => ?_) (hf := fun c79 => ?_)
    · -- then_t79
      exfalso
      simp at c79
    · -- else_t79
      refine JC.skip ?_
      refine JC.rs ?_
      refine Seq.p rfl Ev.move ?_
      refine Seq.p rfl Ev.move ?_
      refine Seq.callP rfl (fun w hw => hv1 ▸ textValue (RAt.up (RAt.own (enc := Tg.enc) (xs := (readF l).tags)) hw)) ?_
      refine Seq.p rfl Ev.move ?_
      refine Seq.p rfl Ev.extract ?_
      refine Seq.p rfl Ev.extract ?_
      refine Seq.p rfl Ev.assign ?_
      refine Seq.p rfl Ev.assign ?_
      refine Seq.nil ?_
      refine JC.rs ?_
      refine Seq.p rfl Ev.move ?_
      refine Seq.p rfl Ev.move ?_
      refine Seq.callP rfl (fun w hw => hv1 ▸ refValue (RAt.up (RAt.own (enc := Tg.enc) (xs := (readF l).tags)) hw)) ?_
      refine Seq.p rfl Ev.move ?_
      refine Seq.p rfl Ev.extract ?_
      refine Seq.p rfl Ev.extract ?_
      refine Seq.p rfl Ev.assign ?_
      refine Seq.p rfl Ev.assign ?_
      refine Seq.nil ?_
      refine JC.rs ?_
      refine Seq.p rfl Ev.move ?_
      refine Seq.p rfl Ev.move ?_
      refine Seq.callP rfl (fun w hw => hn1 ▸ textNumber (RAt.up (RAt.own (enc := Tg.enc) (xs := (readF l).tags)) hw) hts (hL.upd hw)) ?_
      refine Seq.p rfl Ev.move ?_
      refine Seq.p rfl Ev.extract ?_
      refine Seq.p rfl Ev.extract ?_
      refine Seq.p rfl Ev.assign ?_
      refine Seq.p rfl Ev.assign ?_
      refine Seq.nil ?_
      refine JC.rs ?_
      refine Seq.p rfl Ev.move ?_
      refine Seq.p rfl Ev.move ?_
      refine Seq.callP rfl (fun w hw => hn1 ▸ refNumber (RAt.up (RAt.own (enc := Tg.enc) (xs := (readF l).tags)) hw)) ?_
      refine Seq.p rfl Ev.move ?_
      refine Seq.p rfl Ev.extract ?_
      refine Seq.p rfl Ev.extract ?_
      refine Seq.p rfl Ev.assign ?_
      refine Seq.p rfl Ev.assign ?_
      refine Seq.nil ?_
      refine JC.rs ?_
      refine Seq.p rfl Ev.move ?_
      refine Seq.p rfl Ev.move ?_
      refine Seq.p rfl Ev.eqStr ?_
      refine Seq.p rfl Ev.move ?_
      refine Seq.andG (D := [107, 108, 109, 110, 111]) (d := 107) (t := 111) (k := 4) (hn := fun h107 => ?_) (hx := ?_)
      · repeat (first | refine Seq.gn rfl rfl rfl rfl ?_ | refine Seq.gu rfl rfl rfl ?_)
        refine Seq.p rfl Ev.pickF ?_
        exact Seq.nil ⟨rfl, (by repeat (first | with_reducible exact Off.refl | refine Off.upd ?_ rfl | exact Off.mix | refine Off.mix2 ?_ rfl)), Look.here⟩
      apply Exists.intro
      refine ⟨fun h107 => ?_, fun u111 => ?_⟩
      · try simp only [decide_eq_true_eq, decide_eq_false_iff_not, Bool.and_eq_true, Bool.or_eq_true, Bool.not_eq_true', Bool.not_eq_false', Bool.or_eq_false_iff, Bool.and_eq_false_imp] at h107
        refine Seq.gy rfl rfl rfl ?_
        refine Seq.p rfl Ev.move ?_
        refine Seq.gy rfl rfl rfl ?_
        refine Seq.p rfl Ev.move ?_
        refine Seq.gy rfl rfl rfl ?_
        refine Seq.p rfl (Ev.eqB bl.bool) ?_
        refine Seq.p rfl Ev.pickT ?_
        exact Seq.nil ⟨rfl, (by repeat (first | with_reducible exact Off.refl | refine Off.upd ?_ rfl | exact Off.mix | refine Off.mix2 ?_ rfl)), Look.here⟩
      refine Seq.p rfl Ev.move ?_
      refine Seq.andG (D := [112, 113, 114, 115, 116]) (d := 112) (t := 116) (k := 4) (hn := fun h112 => ?_) (hx := ?_)
      · repeat (first | refine Seq.gn rfl rfl rfl rfl ?_ | refine Seq.gu rfl rfl rfl ?_)
        refine Seq.p rfl Ev.pickF ?_
        exact Seq.nil ⟨rfl, (by repeat (first | with_reducible exact Off.refl | refine Off.upd ?_ rfl | exact Off.mix | refine Off.mix2 ?_ rfl)), Look.here⟩
      apply Exists.intro
      refine ⟨fun h112 => ?_, fun u116 => ?_⟩
      · try simp only [decide_eq_true_eq, decide_eq_false_iff_not, Bool.and_eq_true, Bool.or_eq_true, Bool.not_eq_true', Bool.not_eq_false', Bool.or_eq_false_iff, Bool.and_eq_false_imp] at h112
        refine Seq.gy rfl rfl rfl ?_
        refine Seq.p rfl Ev.move ?_
        refine Seq.gy rfl rfl rfl ?_
        refine Seq.p rfl Ev.move ?_
        refine Seq.gy rfl rfl rfl ?_
        refine Seq.p rfl Ev.eq ?_
        refine Seq.p rfl Ev.pickT ?_
        exact Seq.nil ⟨rfl, (by repeat (first | with_reducible exact Off.refl | refine Off.upd ?_ rfl | exact Off.mix | refine Off.mix2 ?_ rfl)), Look.here⟩
      refine Seq.p rfl Ev.move ?_
      refine Seq.andG (D := [117, 118, 119, 120, 121]) (d := 117) (t := 121) (k := 4) (hn := fun h117 => ?_) (hx := ?_)
      · repeat (first | refine Seq.gn rfl rfl rfl rfl ?_ | refine Seq.gu rfl rfl rfl ?_)
        refine Seq.p rfl Ev.pickF ?_
        exact Seq.nil ⟨rfl, (by repeat (first | with_reducible exact Off.refl | refine Off.upd ?_ rfl | exact Off.mix | refine Off.mix2 ?_ rfl)), Look.here⟩
      apply Exists.intro
      refine ⟨fun h117 => ?_, fun u121 => ?_⟩
      · try simp only [decide_eq_true_eq, decide_eq_false_iff_not, Bool.and_eq_true, Bool.or_eq_true, Bool.not_eq_true', Bool.not_eq_false', Bool.or_eq_false_iff, Bool.and_eq_false_imp] at h117
        refine Seq.gy rfl rfl rfl ?_
        refine Seq.p rfl Ev.move ?_
        refine Seq.gy rfl rfl rfl ?_
        refine Seq.p rfl Ev.move ?_
        refine Seq.gy rfl rfl rfl ?_
        refine Seq.p rfl Ev.eq ?_
        refine Seq.p rfl Ev.pickT ?_
        exact Seq.nil ⟨rfl, (by repeat (first | with_reducible exact Off.refl | refine Off.upd ?_ rfl | exact Off.mix | refine Off.mix2 ?_ rfl)), Look.here⟩
      refine Seq.p rfl Ev.move ?_
      refine Seq.andG (D := [122, 123, 124, 125]) (d := 122) (t := 125) (k := 3) (hn := fun h122 => ?_) (hx := ?_)
      · repeat (first | refine Seq.gn rfl rfl rfl rfl ?_ | refine Seq.gu rfl rfl rfl ?_)
        refine Seq.p rfl Ev.pickF ?_
        exact Seq.nil ⟨rfl, (by repeat (first | with_reducible exact Off.refl | refine Off.upd ?_ rfl | exact Off.mix | refine Off.mix2 ?_ rfl)), Look.here⟩
      apply Exists.intro
      refine ⟨fun h122 => ?_, fun u125 => ?_⟩
      · try simp only [decide_eq_true_eq, decide_eq_false_iff_not, Bool.and_eq_true, Bool.or_eq_true, Bool.not_eq_true', Bool.not_eq_false', Bool.or_eq_false_iff, Bool.and_eq_false_imp] at h122
        refine Seq.gy rfl rfl rfl ?_
        refine Seq.callP rfl (fun w hw => hd7 w (hL.upd hw)) ?_
        refine Seq.gy rfl rfl rfl ?_
        refine Seq.p rfl Ev.eqStr ?_
        refine Seq.p rfl Ev.pickT ?_
        exact Seq.nil ⟨rfl, (by repeat (first | with_reducible exact Off.refl | refine Off.upd ?_ rfl | exact Off.mix | refine Off.mix2 ?_ rfl)), Look.here⟩
      refine Seq.p rfl Ev.assign ?_
      refine Seq.nil ?_
      refine JC.ret ?_
      -- return 0
      show retQ _ _ _ _ _ _ _ _
      refine ret1 (hp := Part.nil _) (hpost := ?_)
      simp
end Go.Rx
/- What Encode makes, as a plain function; Decode of it, and it of what was decoded. -/
namespace Go.Rx
open Go Go.RowKit Go.Lib Go.Proofs.YtcggppjpnepoiaaDoor
set_option linter.unusedVariables false
set_option linter.unusedSimpArgs false
/-- A number's digits. -/
def decL (n : Nat) : List Int := (decDigits n).map fun c => (c.toNat : Int)
/-- A field without its end. -/
def fldL (n : Nat) (v : ByteArray) : List Int := decL n ++ 61 :: bytesOf v
def fieldL (n : Nat) (v : ByteArray) : List Int := fldL n v ++ [1]
def bodyL (kind : ByteArray) (xs : List Tg) : List Int := fieldL 35 kind ++ xs.flatMap fun t => fieldL t.tag.toNat t.value
/-- Why a list of fields can't be; 0: it can. -/
def encE : List Tg → List Tg → Int
  | _, [] => 0
  | seen, t :: r => if refusedF seen t ≠ 0 then refusedF seen t else encE (seen ++ [t]) r
def frontL (kind : ByteArray) (xs : List Tg) : List Int := beginL ++ decL (bodyL kind xs).length ++ [1] ++ bodyL kind xs
def lineL (kind : ByteArray) (xs : List Tg) : List Int := frontL kind xs ++ lastL (frontL kind xs)
def encF (kind : ByteArray) (xs : List Tg) : Int × List Int :=
  if kindB kind = false then (3, [])
  else if 64 < xs.length then (2, [])
  else if encE [] xs ≠ 0 then (encE [] xs, [])
  else if 2048 < (lineL kind xs).length then (2, [])
  else (0, lineL kind xs)
theorem decL_digit (n : Nat) : ∀ c ∈ decL n, 48 ≤ c ∧ c ≤ 57 := by
  intro c hc
  obtain ⟨x, hx, rfl⟩ := List.mem_map.1 hc
  have := dec_digits n x hx
  omega
theorem decL_len (n : Nat) : (decL n).length = nDigits n := by
  unfold decL
  rw [List.length_map]
  exact decDigits_length n
theorem decL_pos (n : Nat) : 0 < (decL n).length := by
  rw [decL_len]
  exact nDigits_pos n
theorem decL_bytes (n : Nat) : isBytes (decL n) := fun c hc => by
  have := decL_digit n c hc
  omega
theorem strOf_dec (n : Nat) : strOf (decL n) = decS n := by
  apply ba_ext
  rw [strOf_toList, decS_list]
  unfold decL
  rw [List.map_map]
  conv => rhs; rw [← List.map_id (decDigits n)]
  apply List.map_congr_left
  intro c hc
  simp
theorem decL_of {F : List Int} {n : Nat} (hB : isBytes F) (h : natF (strOf F) = some n) : F = decL n := by
  rw [natF_eq] at h
  have h1 := (numOf_some h).1
  rw [← strOf_dec] at h1
  exact (strOf_inj hB (decL_bytes n)).1 h1
theorem natF_dec {n : Nat} (h : n ≤ 18446744073709551615) : natF (strOf (decL n)) = some n := by
  rw [strOf_dec, natF_eq]
  exact numOf_dec h
theorem decL_four {n : Nat} (h : n < 10000) : (decL n).length ≤ 4 := by
  have e : ∀ k : Nat, k < 10 → (decDigits k).length = 1 := fun k hk => by rw [decDigits_one hk]; rfl
  have s : ∀ k : Nat, ¬ k < 10 → (decDigits k).length = (decDigits (k / 10)).length + 1 := fun k hk => by
    rw [decDigits, dif_neg hk, List.length_append]
    rfl
  have key : ∀ m k : Nat, k < 10 ^ (m + 1) → (decDigits k).length ≤ m + 1 := by
    intro m
    induction m with
    | zero => intro k hk; rw [e k (by simpa using hk)]; exact Nat.le_refl _
    | succ m ih =>
      intro k hk
      by_cases h1 : k < 10
      · rw [e k h1]; omega
      · rw [s k h1]
        have := ih (k / 10) (by rw [Nat.pow_succ] at hk; omega)
        omega
  unfold decL
  rw [List.length_map]
  exact key 3 n (by simpa using h)
theorem decL_big {n : Nat} (h : 10000 ≤ n) : 5 ≤ (decL n).length := by
  rcases Nat.lt_or_ge 4 (decL n).length with h1 | h1
  · exact h1
  · exfalso
    have e1 : natF (strOf (decL n)) = some n ∨ 18446744073709551615 < n := by
      rcases Nat.lt_or_ge 18446744073709551615 n with h2 | h2
      · exact .inr h2
      · exact .inl (natF_dec h2)
    rcases e1 with h2 | h2
    · have h3 := natF_lt h2
      rw [strOf_size] at h3
      have h4 : (10 : Nat) ^ (decL n).length ≤ 10 ^ 4 := Nat.pow_le_pow_right (by decide) h1
      omega
    · have s : ∀ k : Nat, ¬ k < 10 → (decDigits k).length = (decDigits (k / 10)).length + 1 := fun k hk => by
        rw [decDigits, dif_neg hk, List.length_append]
        rfl
      have e2 : (decL n).length = (decDigits n).length := by unfold decL; rw [List.length_map]
      have h5 := s n (by omega)
      have h6 := s (n / 10) (by omega)
      have h7 := s (n / 10 / 10) (by omega)
      have h8 := s (n / 10 / 10 / 10) (by omega)
      have h9 := s (n / 10 / 10 / 10 / 10) (by omega)
      omega
theorem firstF_app {c : Int} {a b : List Int} (h : ∀ x ∈ a, x ≠ c) : firstF c (a ++ c :: b) = a.length := by
  induction a with
  | nil => exact if_pos rfl
  | cons x r ih =>
    have e : firstF c (x :: r ++ c :: b) = firstF c (r ++ c :: b) + 1 := if_neg (h x (List.mem_cons_self ..))
    rw [e, ih (fun y hy => h y (List.mem_cons_of_mem _ hy))]
    rfl
theorem fld_len (n : Nat) (v : ByteArray) : (fldL n v).length = (decL n).length + 1 + v.size := by
  unfold fldL
  rw [List.length_append, List.length_cons, bytesOf_length]
  omega
theorem field_len (n : Nat) (v : ByteArray) : (fieldL n v).length = (decL n).length + 2 + v.size := by
  unfold fieldL
  rw [List.length_append, fld_len]
  simp
  omega
theorem fld_first (n : Nat) (v : ByteArray) : firstF 61 (fldL n v) = (decL n).length := firstF_app fun x hx => by
  have := decL_digit n x hx
  omega
theorem fld_value (n : Nat) (v : ByteArray) : fieldV (fldL n v) = v := by
  unfold fieldV
  rw [fld_first]
  unfold fldL
  rw [← List.drop_drop, List.drop_left]
  exact strOf_bytes v
theorem fld_num {n : Nat} (v : ByteArray) (h : n < 10000) : fieldN (fldL n v) = some n := by
  unfold fieldN
  rw [fld_first, if_pos ⟨by rw [fld_len]; omega, decL_four h⟩]
  unfold fldL
  rw [List.take_left]
  exact natF_dec (by omega)
theorem value_no1 {v : ByteArray} (h : valueB v = true) : ∀ x ∈ bytesOf v, x ≠ 1 := by
  intro x hx
  unfold valueB at h
  rw [Bool.and_eq_true] at h
  have := List.all_eq_true.1 h.2 x hx
  unfold printB at this
  simp only [Bool.and_eq_true, decide_eq_true_eq] at this
  omega
theorem kind_no1 {v : ByteArray} (h : kindB v = true) : ∀ x ∈ bytesOf v, x ≠ 1 := by
  intro x hx
  unfold kindB at h
  rw [Bool.and_eq_true] at h
  have := List.all_eq_true.1 h.2 x hx
  unfold alnum at this
  simp only [Bool.and_eq_true, Bool.or_eq_true, decide_eq_true_eq] at this
  omega
theorem fld_no1 {n : Nat} {v : ByteArray} (h : ∀ x ∈ bytesOf v, x ≠ 1) : ∀ x ∈ fldL n v, x ≠ 1 := by
  intro x hx
  unfold fldL at hx
  rcases List.mem_append.1 hx with hx | hx
  · have := decL_digit n x hx; omega
  · rcases List.mem_cons.1 hx with rfl | hx
    · decide
    · exact h x hx
theorem field_at {l rest : List Int} {p n : Nat} {v : ByteArray} (hd : l.drop p = fieldL n v ++ rest) (h : ∀ x ∈ bytesOf v, x ≠ 1) : firstF 1 (l.drop p) = (fldL n v).length ∧ fieldAt l p = fldL n v := by
  have h1 : firstF 1 (l.drop p) = (fldL n v).length := by
    rw [hd]
    unfold fieldL
    rw [List.append_assoc]
    exact firstF_app (fld_no1 h)
  refine ⟨h1, ?_⟩
  unfold fieldAt
  rw [h1, hd]
  unfold fieldL
  rw [List.append_assoc, List.take_left]
theorem refused_ok {xs : List Tg} {t : Tg} (h : refusedF xs t = 0) : tagB t.tag = true ∧ thereB xs t.tag = false ∧ valueB t.value = true := by
  unfold refusedF at h
  split at h
  · cases h
  · rename_i h1
    split at h
    · cases h
    · rename_i h2
      simp only [Bool.or_eq_true, Bool.not_eq_true', not_or] at h1 h2
      exact ⟨by simpa using h1.1, by simpa using h1.2, by simpa using h2⟩
theorem tag_range {n : Int} (h : tagB n = true) : ((n.toNat : Nat) : Int) = n ∧ n.toNat < 10000 ∧ 1 ≤ n.toNat := by
  unfold tagB at h
  simp only [Bool.and_eq_true, decide_eq_true_eq] at h
  omega
/-- What is encoded is read field by field. -/
theorem parts_enc {l : List Int} {f : Nat} {kind : ByteArray} : ∀ (ys seen : List Tg) (p : Nat) (tail : List Int), l.drop p = (ys.flatMap fun t => fieldL t.tag.toNat t.value) ++ tail → f < p → encE seen ys = 0 → (seen ++ ys).length ≤ 64 →
    partsF l f (p + (ys.flatMap fun t => fieldL t.tag.toNat t.value).length) p kind seen = .ok kind (seen ++ ys)
  | [], seen, p, tail, hd, hf, he, hl => by
    rw [partsF_end (by simp)]
    rw [List.append_nil]
  | t :: r, seen, p, tail, hd, hf, he, hl => by
    have hr : refusedF seen t = 0 := by
      unfold encE at he
      by_cases h : refusedF seen t ≠ 0
      · rw [if_pos h] at he; exact absurd he h
      · exact Classical.not_not.1 h
    have he2 : encE (seen ++ [t]) r = 0 := by
      unfold encE at he
      rwa [if_neg (fun h => h hr)] at he
    obtain ⟨h1, h2, h3⟩ := refused_ok hr
    obtain ⟨g1, g2, g3⟩ := tag_range h1
    rw [List.flatMap_cons, List.append_assoc] at hd
    obtain ⟨a1, a2⟩ := field_at hd (value_no1 h3)
    have hlen := field_len t.tag.toNat t.value
    have hfl := fld_len t.tag.toNat t.value
    have htk : takeF (fieldAt l p) (decide (p = f)) kind seen = (0, kind, seen ++ [t]) := by
      rw [decide_eq_false (by omega), a2, takeF_next (fld_num _ g2), fld_value, g1]
      rw [if_neg (by simp at hl; omega), if_neg (fun h => h hr)]
    have hto : p + ((t :: r).flatMap fun t => fieldL t.tag.toNat t.value).length = p + (fldL t.tag.toNat t.value).length + 1 + (r.flatMap fun t => fieldL t.tag.toNat t.value).length := by
      rw [List.flatMap_cons, List.length_append]
      omega
    have hlt : p < p + (fldL t.tag.toNat t.value).length + 1 + (r.flatMap fun t => fieldL t.tag.toNat t.value).length := by omega
    rw [hto, partsF_step hlt htk, a1]
    have ih := parts_enc (l := l) (f := f) (kind := kind) r (seen ++ [t]) (p + (fldL t.tag.toNat t.value).length + 1) tail (by
      have e : p + (fldL t.tag.toNat t.value).length + 1 = p + (fieldL t.tag.toNat t.value).length := by omega
      rw [e, ← List.drop_drop, hd, List.drop_left]) (by omega) he2 (by simpa using hl)
    rw [List.append_assoc] at ih
    exact ih
theorem preF_full {l : List Int} : ∀ (k i : Nat), (∀ j, i ≤ j → j < i + k → j < l.length ∧ l[j]! = beginL[j]!) → preF l k i = i + k
  | 0, i, h => rfl
  | k + 1, i, h => by
    unfold preF
    rw [if_pos (h i (Nat.le_refl _) (by omega)), preF_full k (i + 1) (fun j h1 h2 => h j (by omega) (by omega))]
    omega
theorem preF_inv {l : List Int} : ∀ (k i : Nat), preF l k i = i + k → ∀ j, i ≤ j → j < i + k → j < l.length ∧ l[j]! = beginL[j]!
  | 0, i, h, j, h1, h2 => by omega
  | k + 1, i, h, j, h1, h2 => by
    unfold preF at h
    by_cases hc : i < l.length ∧ l[i]! = beginL[i]!
    · rw [if_pos hc] at h
      by_cases hj : j = i
      · rw [hj]; exact hc
      · exact preF_inv k (i + 1) (by omega) j (by omega) (by omega)
    · rw [if_neg hc] at h
      omega
theorem dgF_at {l : List Int} {d : Nat} : ∀ (k n : Nat), n ≤ d → d ≤ n + k → (∀ j, n ≤ j → j < d → 10 + j < l.length ∧ digit l[10 + j]! = true) → (d < n + k → ¬ (10 + d < l.length ∧ digit l[10 + d]! = true)) → dgF l k n = d
  | 0, n, h1, h2, h3, h4 => by
    show n = d
    omega
  | k + 1, n, h1, h2, h3, h4 => by
    unfold dgF
    by_cases hd : n = d
    · subst hd
      rw [if_neg (h4 (by omega))]
    · rw [if_pos (h3 n (Nat.le_refl _) (by omega))]
      exact dgF_at k (n + 1) (by omega) (by omega) (fun j a b => h3 j (by omega) b) (fun a => h4 (by omega))
theorem get_app_left {a b : List Int} {i : Nat} (h : i < a.length) : (a ++ b)[i]! = a[i]! := by
  rw [getElem!_pos (a ++ b) i (by rw [List.length_append]; omega), getElem!_pos a i h, List.getElem_append_left h]
theorem get_app_right {a b : List Int} {i : Nat} (h : i < b.length) : (a ++ b)[a.length + i]! = b[i]! := by
  rw [getElem!_pos (a ++ b) (a.length + i) (by rw [List.length_append]; omega), getElem!_pos b i h, List.getElem_append_right (by omega)]
  congr 1
  omega
theorem head_enc {m : Nat} {rest : List Int} (h : m < 10000) : headF (beginL ++ decL m ++ [1] ++ rest) = .ok (11 + (decL m).length) m := by
  have hd4 := decL_four h
  have hdp := decL_pos m
  generalize hl : beginL ++ decL m ++ [1] ++ rest = l
  have e1 : l = beginL ++ (decL m ++ ([1] ++ rest)) := by rw [← hl]; simp
  have hll : l.length = 10 + (decL m).length + 1 + rest.length := by
    rw [← hl]
    simp [beginL]
    omega
  have hb : ∀ j, j < 10 → l[j]! = beginL[j]! := fun j hj => by rw [e1]; exact get_app_left (by simpa [beginL] using hj)
  have hg : ∀ j, j < (decL m).length → l[10 + j]! = (decL m)[j]! := fun j hj => by
    have h1 := get_app_right (a := beginL) (b := decL m ++ ([1] ++ rest)) (i := j) (by rw [List.length_append]; omega)
    rw [e1]
    rw [get_app_left hj] at h1
    exact h1
  have h1 : l[10 + (decL m).length]! = 1 := by
    have h1 := get_app_right (a := beginL) (b := decL m ++ ([1] ++ rest)) (i := (decL m).length) (by simp)
    have h2 := get_app_right (a := decL m) (b := [1] ++ rest) (i := 0) (by simp)
    rw [e1]
    rw [Nat.add_zero] at h2
    rw [h2] at h1
    exact h1
  have hp : preF l 10 0 = 10 := preF_full 10 0 fun j _ hj => ⟨by omega, hb j (by omega)⟩
  have hdg : dgF l 5 0 = (decL m).length := by
    refine dgF_at 5 0 (by omega) (by omega) (fun j _ hj => ⟨by omega, ?_⟩) (fun _ => ?_)
    · rw [hg j hj, getElem!_pos _ j hj]
      have := decL_digit m _ (List.getElem_mem hj)
      unfold digit
      simp only [Bool.and_eq_true, decide_eq_true_eq]
      omega
    · rintro ⟨_, h2⟩
      rw [h1] at h2
      cases h2
  have hdr : (l.drop 10).take (decL m).length = decL m := by
    rw [e1]
    have : (beginL ++ (decL m ++ ([1] ++ rest))).drop 10 = decL m ++ ([1] ++ rest) := rfl
    rw [this, List.take_left]
  unfold headF
  rw [hp, if_neg (by omega), hdg, if_neg (by omega), hdr, natF_dec (by omega)]
  simp only
  rw [if_neg]
  rintro (h2 | h2)
  · omega
  · exact h2 h1
end Go.Rx
/- Decode of what was encoded, and Encode of what was decoded: the plain laws. -/
namespace Go.Rx
open Go Go.RowKit Go.Lib Go.Proofs.YtcggppjpnepoiaaDoor
set_option linter.unusedVariables false
set_option linter.unusedSimpArgs false
theorem encF_ok {kind : ByteArray} {xs : List Tg} {l : List Int} (h : encF kind xs = (0, l)) : kindB kind = true ∧ xs.length ≤ 64 ∧ encE [] xs = 0 ∧ (lineL kind xs).length ≤ 2048 ∧ l = lineL kind xs := by
  unfold encF at h
  split at h
  · cases h
  · rename_i h1
    split at h
    · cases h
    · rename_i h2
      split at h
      · rename_i h3
        exact absurd (Prod.mk.inj h).1 h3
      · rename_i h3
        split at h
        · cases h
        · rename_i h4
          exact ⟨by simpa using h1, by omega, Classical.not_not.1 h3, by omega, (Prod.mk.inj h).2.symm⟩
theorem flat_last : ∀ (xs : List Tg) (pre : List Int), ∃ x, (pre ++ [1]) ++ (xs.flatMap fun t => fieldL t.tag.toNat t.value) = x ++ [1]
  | [], pre => ⟨pre, by simp⟩
  | t :: r, pre => by
    obtain ⟨x, hx⟩ := flat_last r ((pre ++ [1]) ++ fldL t.tag.toNat t.value)
    refine ⟨x, ?_⟩
    rw [← hx]
    simp [fieldL, List.flatMap_cons]
theorem body_last (kind : ByteArray) (xs : List Tg) : ∃ x, bodyL kind xs = x ++ [1] := flat_last xs (fldL 35 kind)
theorem last_seven (l : List Int) : (lastL l).length = 7 := rfl
theorem trail_ok (l : List Int) : trailB (lastL l) = true := by
  have hs := sumB_range l
  show trailB [49, 48, 61, 48 + sumB l / 100, 48 + sumB l / 10 % 10, 48 + sumB l % 10, 1] = true
  rw [trailB_seven]
  unfold digit
  simp only [Bool.and_eq_true, decide_eq_true_eq]
  refine ⟨⟨⟨?_, ?_, ?_⟩, ?_⟩, ?_⟩
  all_goals first | omega | simp
theorem front_len (kind : ByteArray) (xs : List Tg) : (frontL kind xs).length = 11 + (decL (bodyL kind xs).length).length + (bodyL kind xs).length := by
  unfold frontL
  simp [beginL]
  omega
theorem line_len (kind : ByteArray) (xs : List Tg) : (lineL kind xs).length = 11 + (decL (bodyL kind xs).length).length + (bodyL kind xs).length + 7 := by
  unfold lineL
  rw [List.length_append, last_seven, front_len]
/-- What was encoded is decoded, whatever stands behind it. -/
theorem read_enc {kind : ByteArray} {xs : List Tg} {l : List Int} (h : encF kind xs = (0, l)) (behind : List Int) : readF (l ++ behind) = ⟨kind, xs, (l.length : Int), 0, l.length⟩ := by
  obtain ⟨hk, hx, he, hlen, rfl⟩ := encF_ok h
  have hll := line_len kind xs
  have hfl := front_len kind xs
  obtain ⟨y, hy⟩ := body_last kind xs
  have hm : (bodyL kind xs).length = y.length + 1 := by rw [hy]; simp
  have hbody : bodyL kind xs = fieldL 35 kind ++ xs.flatMap fun t => fieldL t.tag.toNat t.value := rfl
  have hblen : (bodyL kind xs).length = (fieldL 35 kind).length + (xs.flatMap fun t => fieldL t.tag.toNat t.value).length := by rw [hbody, List.length_append]
  generalize hd : (decL (bodyL kind xs).length).length = d at hll hfl
  generalize hfr : frontL kind xs = front at hfl
  have hL : lineL kind xs ++ behind = beginL ++ decL (bodyL kind xs).length ++ [1] ++ (bodyL kind xs ++ (lastL front ++ behind)) := by
    have hfe : front = beginL ++ decL (bodyL kind xs).length ++ [1] ++ bodyL kind xs := hfr.symm
    unfold lineL
    rw [hfr, hfe]
    simp only [List.append_assoc]
  have hhead := head_enc (m := (bodyL kind xs).length) (rest := bodyL kind xs ++ (lastL front ++ behind)) (by omega)
  rw [← hL, hd] at hhead
  have hL2 : lineL kind xs ++ behind = front ++ (lastL front ++ behind) := by
    unfold lineL
    rw [hfr]
    simp
  have hL3 : lineL kind xs ++ behind = (beginL ++ decL (bodyL kind xs).length ++ [1]) ++ (fieldL 35 kind ++ ((xs.flatMap fun t => fieldL t.tag.toNat t.value) ++ (lastL front ++ behind))) := by
    rw [hL, hbody]
    simp
  have hll2 : (lineL kind xs ++ behind).length = (lineL kind xs).length + behind.length := List.length_append
  generalize hLg : lineL kind xs ++ behind = L at hhead hL hL2 hL3 hll2
  generalize hmg : (bodyL kind xs).length = m at *
  have hfm : 11 + d + m = front.length := by omega
  have htake : L.take (11 + d + m) = front := by rw [hfm, hL2, List.take_left]
  have hdrop : (L.drop (11 + d + m)).take 7 = lastL front := by rw [hfm, hL2, List.drop_left, ← last_seven front, List.take_left]
  have h1 : L[11 + d + m - 1]! = 1 := by
    have e : front = (beginL ++ decL m ++ [1] ++ y) ++ [1] := by
      rw [← hfr]
      unfold frontL
      rw [hmg, hy]
      simp
    have h2 := get_app_right (a := beginL ++ decL m ++ [1] ++ y) (b := [1] ++ (lastL front ++ behind)) (i := 0) (by simp)
    have e2 : L = (beginL ++ decL m ++ [1] ++ y) ++ ([1] ++ (lastL front ++ behind)) := by
      rw [hL2, e]
      simp only [List.append_assoc]
    rw [← e2, Nat.add_zero] at h2
    have e3 : (beginL ++ decL m ++ [1] ++ y).length = 11 + d + m - 1 := by
      simp [beginL]
      omega
    rw [e3] at h2
    exact h2
  have hf35 := field_len 35 kind
  have hfld := fld_len 35 kind
  have hdf : L.drop (11 + d) = fieldL 35 kind ++ ((xs.flatMap fun t => fieldL t.tag.toNat t.value) ++ (lastL front ++ behind)) := by
    have e : (beginL ++ decL m ++ [1]).length = 11 + d := by
      simp [beginL]
      omega
    rw [hL3, ← e, List.drop_left]
  obtain ⟨a1, a2⟩ := field_at hdf (kind_no1 hk)
  have htk : takeF (fieldAt L (11 + d)) (decide (11 + d = 11 + d)) ⟨#[]⟩ [] = (0, kind, []) := by
    rw [decide_eq_true rfl, a2, takeF_first (fld_num kind (by decide)), fld_value, if_neg]
    rintro (h | h)
    · exact h rfl
    · rw [hk] at h; cases h
  have hparts : partsF L (11 + d) (11 + d + m) (11 + d) ⟨#[]⟩ [] = .ok kind xs := by
    rw [partsF_step (by omega) htk, a1]
    have h3 := parts_enc (l := L) (f := 11 + d) (kind := kind) xs [] (11 + d + (fldL 35 kind).length + 1) (lastL front ++ behind) (by
      rw [show 11 + d + (fldL 35 kind).length + 1 = 11 + d + (fieldL 35 kind).length by omega, ← List.drop_drop, hdf, List.drop_left]) (by omega) he (by simpa using hx)
    rw [List.nil_append] at h3
    rw [show 11 + d + m = 11 + d + (fldL 35 kind).length + 1 + (xs.flatMap fun t => fieldL t.tag.toNat t.value).length by omega]
    exact h3
  have hcc : ¬ (trailB ((L.drop (11 + d + m)).take 7) = false ∨ m = 0 ∨ L[11 + d + m - 1]! ≠ 1) := by
    rw [hdrop, trail_ok]
    rintro (h | h | h)
    · cases h
    · omega
    · exact h h1
  rw [readF_parts hhead (by omega) (by omega) hcc (by rw [hdrop, htake]; exact fun h => h rfl), hparts]
  unfold partA
  rw [hll]
theorem fieldN_inv {F : List Int} {n : Nat} (hB : isBytes F) (h : fieldN F = some n) : F = fldL n (fieldV F) ∧ n < 10000 := by
  unfold fieldN at h
  split at h
  · rename_i hc
    have h1 := decL_of (isBytes_take hB) h
    have h2 := firstF_get hc.1
    refine ⟨?_, ?_⟩
    · unfold fldL fieldV
      rw [bytesOf_str (isBytes_drop hB), ← h1]
      conv => lhs; rw [← List.take_append_drop (firstF 61 F) F]
      congr 1
      rw [List.drop_eq_getElem_cons hc.1]
      congr 1
      rw [getElem!_pos F _ hc.1] at h2
      exact h2
    · have h3 := natF_lt h
      rw [strOf_size] at h3
      have h4 : (F.take (firstF 61 F)).length ≤ 4 := by rw [List.length_take]; omega
      exact Nat.lt_of_lt_of_le h3 (Nat.pow_le_pow_right (by decide) h4)
  · cases h
theorem split_field {l : List Int} {p r : Nat} (h : p + firstF 1 (l.drop p) < l.length) : (l.drop p).take (firstF 1 (l.drop p) + 1 + r) = fieldAt l p ++ [1] ++ (l.drop (p + firstF 1 (l.drop p) + 1)).take r := by
  have hlt : firstF 1 (l.drop p) < (l.drop p).length := by rw [List.length_drop]; omega
  have h2 := firstF_get hlt
  rw [List.take_add, List.take_add]
  unfold fieldAt
  congr 1
  · congr 1
    rw [List.drop_eq_getElem_cons hlt]
    rw [getElem!_pos (l.drop p) (firstF 1 (l.drop p)) hlt] at h2
    rw [h2]
    rfl
  · rw [List.drop_drop]
    congr 2
theorem parts_inv {l : List Int} {f to : Nat} {kind' : ByteArray} {ys : List Tg} (hB : isBytes l) (ht : to ≤ l.length) (h1 : l[to - 1]! = 1) : ∀ {p : Nat} {kind : ByteArray} {xs : List Tg}, f < p → p ≤ to → xs.length ≤ 64 → partsF l f to p kind xs = .ok kind' ys →
    kind' = kind ∧ ∃ zs, ys = xs ++ zs ∧ (l.drop p).take (to - p) = (zs.flatMap fun t => fieldL t.tag.toNat t.value) ∧ encE xs zs = 0 ∧ ys.length ≤ 64 := by
  intro p kind xs hf hp hx h
  generalize hd : to - p = d
  induction d using Nat.strongRecOn generalizing p kind xs with
  | _ d ih =>
    by_cases hlt : p < to
    · have hin := first_in hlt ht h1
      rcases htk : takeF (fieldAt l p) (decide (p = f)) kind xs with ⟨e, k1, xs1⟩
      by_cases he : e = 0
      · subst he
        rw [partsF_step hlt htk] at h
        rw [decide_eq_false (by omega)] at htk
        cases hN : fieldN (fieldAt l p) with
        | none => rw [takeF_none hN] at htk; cases htk
        | some n =>
          rw [takeF_next hN] at htk
          by_cases h64 : xs.length = 64
          · rw [if_pos h64] at htk; cases htk
          · rw [if_neg h64] at htk
            by_cases hr : refusedF xs ⟨n, fieldV (fieldAt l p)⟩ ≠ 0
            · rw [if_pos hr] at htk
              exact absurd (Prod.mk.inj htk).1 hr
            · rw [if_neg hr] at htk
              cases htk
              obtain ⟨g1, zs, g2, g3, g4, g5⟩ := ih (to - (p + firstF 1 (l.drop p) + 1)) (by omega) (by omega) (by omega) (by simp; omega) h rfl
              refine ⟨g1, ⟨n, fieldV (fieldAt l p)⟩ :: zs, by rw [g2]; simp, ?_, ?_, g5⟩
              · rw [show d = firstF 1 (l.drop p) + 1 + (to - (p + firstF 1 (l.drop p) + 1)) by omega, split_field (by omega), g3, List.flatMap_cons]
                congr 1
                unfold fieldL
                show _ = fldL ((n : Int).toNat) (fieldV (fieldAt l p)) ++ [1]
                rw [Int.toNat_natCast]
                congr 1
                exact (fieldN_inv (isBytes_take (isBytes_drop hB)) hN).1
              · unfold encE
                rw [if_neg hr]
                exact g4
      · rw [partsF_bad hlt htk he] at h
        cases h
    · rw [partsF_end hlt] at h
      cases h
      refine ⟨rfl, [], by simp, ?_, rfl, hx⟩
      rw [show d = 0 by omega]
      rfl
theorem head_inv {l : List Int} {f k : Nat} (hB : isBytes l) (h : headF l = .ok f k) : l.take f = beginL ++ decL k ++ [1] ∧ f = 11 + (decL k).length ∧ f ≤ l.length := by
  have hpl := preF_le l 10 0
  have hgl := dgF_le l 5 0
  unfold headF at h
  split at h
  · split at h <;> cases h
  · rename_i h1
    have hp : preF l 10 0 = 10 := by omega
    have hinv := preF_inv 10 0 (by rw [hp])
    split at h
    · cases h
    · rename_i h2
      split at h
      · rename_i q hq
        split at h
        · cases h
        · rename_i h3
          cases h
          have h4 : l[10 + dgF l 5 0]! = 1 := Classical.not_not.1 fun h => h3 (.inr h)
          have h10 : 10 ≤ l.length := by have := (hinv 9 (by omega) (by omega)).1; omega
          have hdl := dgF_len l 5 0 (by omega)
          have hlt : 10 + dgF l 5 0 < l.length := by omega
          have hdec := decL_of (isBytes_take (isBytes_drop hB)) hq
          have hlen : (decL k).length = dgF l 5 0 := by rw [← hdec, List.length_take, List.length_drop]; omega
          refine ⟨?_, by omega, by omega⟩
          have e10 : l.take 10 = beginL := by
            apply List.ext_getElem
            · rw [List.length_take]
              show min 10 l.length = 10
              omega
            · intro i ha hb
              obtain ⟨h5, h6⟩ := hinv i (by omega) (by rw [List.length_take] at ha; omega)
              rw [getElem!_pos l i h5, getElem!_pos beginL i hb] at h6
              rw [List.getElem_take]
              exact h6
          rw [getElem!_pos l _ hlt] at h4
          rw [show 11 + dgF l 5 0 = 10 + dgF l 5 0 + 1 by omega, List.take_succ_eq_append_getElem hlt, List.take_add, e10, hdec, h4]
      · cases h
theorem readF_ok_parts {l : List Int} (h : (readF l).why = 0) : ∃ f k kind xs, headF l = .ok f k ∧ ¬ 2048 < f + k + 7 ∧ ¬ l.length < f + k + 7 ∧ ¬ (trailB ((l.drop (f + k)).take 7) = false ∨ k = 0 ∨ l[f + k - 1]! ≠ 1) ∧ (l.drop (f + k)).take 7 = lastL (l.take (f + k)) ∧
    partsF l f (f + k) f ⟨#[]⟩ [] = .ok kind xs ∧ readF l = ⟨kind, xs, ((f + k + 7 : Nat) : Int), 0, f + k + 7⟩ := by
  cases hh : headF l with
  | bad a c => rw [readF_bad hh] at h; exact absurd h (head_why hh)
  | ok f k =>
    by_cases h1 : 2048 < f + k + 7
    · rw [readF_long hh h1] at h; cases h
    · by_cases h2 : l.length < f + k + 7
      · rw [readF_short hh h1 h2] at h; cases h
      · by_cases h3 : trailB ((l.drop (f + k)).take 7) = false ∨ k = 0 ∨ l[f + k - 1]! ≠ 1
        · rw [readF_body hh h1 h2 h3] at h; cases h
        · by_cases h4 : (l.drop (f + k)).take 7 ≠ lastL (l.take (f + k))
          · rw [readF_trail hh h1 h2 h3 h4] at h; cases h
          · have hr := readF_parts hh h1 h2 h3 h4
            cases hp : partsF l f (f + k) f ⟨#[]⟩ [] with
            | bad p e => rw [hr, hp] at h; exact absurd h (partsF_why hp)
            | ok kind xs =>
              rw [hp] at hr
              exact ⟨f, k, kind, xs, rfl, h1, h2, h3, Classical.not_not.1 h4, hp, hr⟩
/-- What was decoded is the one form of it. -/
theorem read_inv {l : List Int} (hB : isBytes l) (h : (readF l).why = 0) : encF (readF l).kind (readF l).tags = (0, l.take (readF l).size) ∧ 18 ≤ (readF l).size ∧ (readF l).size ≤ l.length := by
  obtain ⟨f, k, kind, xs, hh, h1, h2, h3, h4, hp, hr⟩ := readF_ok_parts h
  obtain ⟨q1, q2, q3⟩ := head_inv hB hh
  have hk0 : k ≠ 0 := fun h => h3 (.inr (.inl h))
  have hb1 : l[f + k - 1]! = 1 := Classical.not_not.1 fun h => h3 (.inr (.inr h))
  have hlt : f < f + k := by omega
  have hin := first_in hlt (by omega) hb1
  have hdp := decL_pos k
  rw [hr]
  refine ⟨?_, by show 18 ≤ f + k + 7; omega, by show f + k + 7 ≤ l.length; omega⟩
  show encF kind xs = (0, l.take (f + k + 7))
  rcases htk : takeF (fieldAt l f) (decide (f = f)) ⟨#[]⟩ [] with ⟨e, k1, xs1⟩
  have he : e = 0 := by
    by_cases he : e = 0
    · exact he
    · rw [partsF_bad hlt htk he] at hp; cases hp
  subst he
  rw [partsF_step hlt htk] at hp
  rw [decide_eq_true rfl] at htk
  cases hN : fieldN (fieldAt l f) with
  | none => rw [takeF_none hN] at htk; cases htk
  | some n =>
    rw [takeF_first hN] at htk
    by_cases hc : n ≠ 35 ∨ kindB (fieldV (fieldAt l f)) = false
    · rw [if_pos hc] at htk; cases htk
    · rw [if_neg hc] at htk
      cases htk
      obtain ⟨g1, zs, g2, g3, g4, g5⟩ := parts_inv hB (by omega) hb1 (by omega) (by omega) (Nat.zero_le _) hp
      rw [List.nil_append] at g2
      subst g2
      have hn : n = 35 := Classical.not_not.1 fun h => hc (.inl h)
      have hkb : kindB (fieldV (fieldAt l f)) = true := by
        cases hq : kindB (fieldV (fieldAt l f)) with
        | true => rfl
        | false => exact absurd (.inr hq) hc
      have hfi : fieldAt l f = fldL n (fieldV (fieldAt l f)) := (fieldN_inv (isBytes_take (isBytes_drop hB)) hN).1
      have hbody : (l.drop f).take k = bodyL kind xs := by
        rw [show k = firstF 1 (l.drop f) + 1 + (f + k - (f + firstF 1 (l.drop f) + 1)) by omega, split_field (by omega), g3]
        unfold bodyL fieldL
        rw [← hn, g1, ← hfi]
      have hbl : (bodyL kind xs).length = k := by rw [← hbody, List.length_take, List.length_drop]; omega
      have hfront : l.take (f + k) = frontL kind xs := by
        rw [List.take_add, q1, hbody]
        unfold frontL
        rw [hbl]
      have hline : l.take (f + k + 7) = lineL kind xs := by
        rw [List.take_add, h4, hfront]
        rfl
      have hll : (lineL kind xs).length = f + k + 7 := by rw [← hline, List.length_take]; omega
      unfold encF
      rw [if_neg (by rw [g1, hkb]; decide), if_neg (by omega), if_neg (fun h => h g4), if_neg (by omega), hline]
end Go.Rx
/- The program's Encode. -/
namespace Go.Rx
open Go Go.RowKit Go.Lib Go.Proofs.YtcggppjpnepoiaaDoor
set_option linter.unusedVariables false
set_option linter.unusedSimpArgs false
structure Sb where
  v : Value
  l : List Int
deriving Inhabited
def Sb.enc (p : Sb) : List Value := [p.v]
theorem get_memS {α : Type} [Inhabited α] {xs : List α} {i : Nat} (h : i < xs.length) : xs[i]! ∈ xs := by
  rw [getElem!_pos xs i h]
  exact List.getElem_mem _
theorem flat_take {α : Type} [Inhabited α] (f : α → List Int) {xs : List α} {i : Nat} (h : i < xs.length) : (xs.take (i + 1)).flatMap f = (xs.take i).flatMap f ++ f xs[i]! := by
  rw [List.take_succ_eq_append_getElem h, List.flatMap_append, getElem!_pos xs i h]
  simp
theorem flat_le {α : Type} (f : α → List Int) (xs : List α) (i : Nat) : ((xs.take i).flatMap f).length ≤ (xs.flatMap f).length := by
  conv => rhs; rw [← List.take_append_drop i xs, List.flatMap_append, List.length_append]
  omega
theorem bytesOf_app (a b : ByteArray) : bytesOf (a ++ b) = bytesOf a ++ bytesOf b := by
  unfold bytesOf
  rw [ByteArray.data_append, Array.toList_append, List.map_append]
theorem bytesOf_dec (n : Nat) : bytesOf (decS n) = decL n := by
  unfold bytesOf decL
  rw [decS_list]
set_option maxHeartbeats 1000000 in
set_option maxRecDepth 100000 in
theorem growNilB {w : World} {m : Nat} (hm : m ≤ 140737488355328) : Spec Go.Proofs.Tryd.prog 62 #[.slice none 0 0, .int .i64 (m : Int)] w [] (fun u N => ∃ A c, u = .slice A 0 c ∧ N = [bytesC (.slice A 0 c) []]) := by
  refine Spec.enter (fn := Go.Proofs.Tryd.f62) (n := 27) [.slice none 0 0, .int .i64 (m : Int)] Go.Proofs.Tryd.func62 (by kernel_rfl) rfl Go.Proofs.Tryd.ntmps62 Go.Proofs.Tryd.results62 rfl (Own.nil _) ?_
  refine JC.rs ?_
  refine Seq.p rfl Ev.assign ?_
  refine Seq.nil ?_
  refine JC.seq ?_
  refine JC.rs ?_
  refine Seq.p rfl Ev.move ?_
  refine Seq.p rfl Ev.lt ?_
  refine Seq.nil ?_
  first | refine JC.c (ht := fun c6 => ?_) (hf := fun c6 => ?_) | refine JC.cb (ht := fun c6 => ?_) (hf := fun c6 => ?_)
  · -- then_t6
    exfalso; omega
  · -- else_t6
    refine JC.skip ?_
    refine JC.seq ?_
    refine JC.rs ?_
    refine Seq.p rfl Ev.move ?_
    refine Seq.p rfl Ev.move ?_
    refine Seq.p rfl (Ev.capSl sl.sl_uint8) ?_
    refine Seq.p rfl Ev.move ?_
    refine Seq.p rfl (Ev.lenSl sl.sl_uint8 (hr := (RSl.empty byteEnc 1 _ []).r)) ?_
    refine Seq.p rfl (Ev.sub (h := by decide)) ?_
    have e1 : ((0 : Nat) : Int) - ((List.length ([] : List Int) : Nat) : Int) = 0 := rfl
    rw [e1]
    refine Seq.p rfl (Ev.sub) ?_
    rw [Int.sub_zero]
    refine Seq.p rfl Ev.assign ?_
    refine Seq.nil ?_
    refine JC.rs ?_
    refine Seq.p rfl Ev.move ?_
    refine Seq.p rfl Ev.gt ?_
    refine Seq.nil ?_
    first | refine JC.c (ht := fun c16 => ?_) (hf := fun c16 => ?_) | refine JC.cb (ht := fun c16 => ?_) (hf := fun c16 => ?_)
    · -- then_t16
      refine JC.reg ?_
      refine Seq.p rfl Ev.move ?_
      refine Seq.p rfl Ev.move ?_
      refine Seq.p rfl (Ev.capSl sl.sl_uint8) ?_
      refine Seq.p rfl (Ev.cutHi (h := 0) sl.sl_uint8) ?_
      refine Seq.p rfl Ev.move ?_
      refine Seq.growNil (m := m) (hsl := sl.sl_uint8) (he := el.uint8) (hi := it.int) (kk := ?_); intro b22 c22 zs
      refine Seq.p rfl Ev.move ?_
      refine Seq.p rfl (Ev.lenSl sl.sl_uint8 (hr := (RSl.empty byteEnc 1 _ []).r)) ?_
      refine Seq.p rfl (Ev.cutHi (h := 0) sl.sl_uint8) ?_
      refine Seq.re (fun w h => Upd.own0 h At.z) ?_
      refine Seq.p rfl Ev.assign ?_
      refine Seq.nil ?_
      refine JC.rs ?_
      refine Seq.p rfl Ev.move ?_
      refine Seq.p rfl Ev.assign ?_
      refine Seq.nil ?_
      refine JC.ret ?_
      -- return 0
      show retQ _ _ _ _ _ _ _ _
      refine ret1 (hp := Part.refl _) (hpost := ?_)
      exact ⟨_, _, rfl, rfl⟩
    · -- else_t16
      obtain rfl : m = 0 := by omega
      refine JC.re (fun w h => Upd.nilOwn h 5 1) ?_
      refine JC.skip ?_
      refine JC.rs ?_
      refine Seq.p rfl Ev.move ?_
      refine Seq.p rfl Ev.assign ?_
      refine Seq.nil ?_
      refine JC.ret ?_
      -- return 1
      show retQ _ _ _ _ _ _ _ _
      refine ret1 (hp := Part.refl _) (hpost := ?_)
      exact ⟨_, _, rfl, rfl⟩
set_option maxHeartbeats 1000000 in
set_option maxRecDepth 100000 in
theorem concatBytes {w : World} {v : Value} {ps : List Sb} (hr : RSl Sb.enc 1 w [] v ps) (hp : ∀ p ∈ ps, RSl byteEnc 1 w [] p.v p.l) (hs : (ps.flatMap (·.l)).length ≤ 70368744177664) :
    Spec Go.Proofs.Tryd.prog 40 #[v] w [] (fun u H' => ∃ A c, u = .slice A (ps.flatMap (·.l)).length c ∧ H' = [bytesC (.slice A (ps.flatMap (·.l)).length c) (ps.flatMap (·.l))]) := by
  have hsm := hr.small
  refine Spec.enter (fn := Go.Proofs.Tryd.f40) (n := 36) [v] Go.Proofs.Tryd.func40 (by kernel_rfl) rfl Go.Proofs.Tryd.ntmps40 Go.Proofs.Tryd.results40 rfl (Own.nil _) ?_
  refine JC.rs ?_
  refine Seq.p rfl Ev.assign ?_
  refine Seq.nil ?_
  refine JC.rs ?_
  refine Seq.p rfl Ev.assign ?_
  refine Seq.nil ?_
  refine JC.seq ?_
  refine JC.rs ?_
  refine Seq.p rfl Ev.move ?_
  refine Seq.p rfl (Ev.lenSl sl.sl_sl_uint8 (hr := hr.r)) ?_
  refine Seq.p rfl Ev.move ?_
  refine Seq.nil ?_
  refine JC.blk ?_
  refine JC.loop (α := Nat) (I := fun i e1 H1 => Has [3, 5, 11, 12, 13, 14, 15, 16, 17, 18, 19, 20, 21, 22] [(3, .int .i64 (((ps.take i).flatMap (·.l)).length : Int)), (11, .int .i64 (i : Int))] _ e1 ∧ H1 = _ ∧ i ≤ ps.length) (μ := fun i => ps.length - i) 0 ⟨Has.mk Off.refl (allLook_cons (by repeat (first | exact Look.here | apply Look.there (hne := rfl) | exact Look.const | apply Look.mix rfl | exact Look.arg0 | apply Look.args | exact Look.func)) (allLook_cons (by repeat (first | exact Look.here | apply Look.there (hne := rfl) | exact Look.const | apply Look.mix rfl | exact Look.arg0 | apply Look.args | exact Look.func)) allLook_nil)), rfl, by omega⟩ ?_
  rintro i _ _ ⟨⟨u, rfl⟩, rfl, hi⟩; dsimp only [setL]
  refine JC.rs ?_
  refine Seq.p rfl Ev.lt ?_
  refine Seq.nil ?_
  refine JC.seq ?_
  first | refine JC.c (ht := fun c12 => ?_) (hf := fun c12 => ?_) | refine JC.cb (ht := fun c12 => ?_) (hf := fun c12 => ?_)
  · -- then_t12
    have hi2 : i < ps.length := by omega
    have hft := flat_take (·.l) hi2
    have hfl := flat_le (·.l) ps (i + 1)
    have hfl2 := congrArg List.length hft
    rw [List.length_append] at hfl2
    have hpi := hp _ (get_memS hi2)
    refine JC.skip ?_
    refine JC.seq ?_
    refine JC.blk ?_
    refine JC.rs ?_
    refine Seq.p rfl (Ev.iaN sl.sl_sl_uint8 (hr := hr.r)) ?_
    refine Seq.p rfl (Ev.ldE1 sc.sl_uint8 (hr := hr.r)) ?_
    refine Seq.p rfl Ev.assign ?_
    refine Seq.nil ?_
    refine JC.rs ?_
    refine Seq.p rfl Ev.move ?_
    refine Seq.p rfl Ev.move ?_
    refine Seq.p rfl (Ev.lenSl sl.sl_uint8 (hr := hpi.r)) ?_
    refine Seq.p rfl (Ev.addN (m := ((ps.take i).flatMap (·.l)).length) (c := (ps[i]!).l.length)) ?_
    refine Seq.p rfl Ev.assign ?_
    refine Seq.nil ?_
    refine JC.rs ?_
    refine Seq.p rfl Ev.move ?_
    refine Seq.p rfl Ev.lt ?_
    refine Seq.nil ?_
    first | refine JC.c (ht := fun c20 => ?_) (hf := fun c20 => ?_) | refine JC.cb (ht := fun c20 => ?_) (hf := fun c20 => ?_)
    · -- then_t20
      exfalso; omega
    · -- else_t20
      refine JC.skip ?_
      refine JC.reg ?_
      refine Seq.p rfl (by first | exact Ev.inc | exact Ev.add) ?_
      refine Seq.p rfl Ev.move ?_
      refine Seq.nil ?_
      exact ⟨i + 1, _, Part.refl _, ⟨Has.mk (by repeat (first | refine Off.upd ?_ rfl | exact Off.mix | refine Off.mix2 ?_ rfl | exact Off.refl)) (allLook_cons (by rw [hfl2]; exact (by repeat (first | exact Look.here | apply Look.there (hne := rfl) | exact Look.const | apply Look.mix rfl | exact Look.arg0 | apply Look.args | exact Look.func))) (allLook_cons (by repeat (first | exact Look.here | apply Look.there (hne := rfl) | exact Look.const | apply Look.mix rfl | exact Look.arg0 | apply Look.args | exact Look.func)) allLook_nil)), rfl, by omega⟩, by omega⟩
  · -- else_t12
    obtain rfl : i = ps.length := by omega
    rw [List.take_length]
    refine JC.exit ?_ -- 0
    refine JC.rs ?_
    refine Seq.p rfl Ev.move ?_
    obtain ⟨m, hm⟩ : ∃ m, m = (ps.flatMap (·.l)).length := ⟨_, rfl⟩
    rw [← hm]
    refine Seq.call rfl (fun w' hw => growNilB (m := m) (by omega)) (F := []) (by exact List.Perm.refl _) ?_
    rintro _ _ ⟨A24, c24, rfl, rfl⟩
    simp only [List.cons_append, List.nil_append]
    refine Seq.p rfl Ev.assign ?_
    refine Seq.nil ?_
    refine JC.seq ?_
    refine JC.rs ?_
    refine Seq.p rfl Ev.move ?_
    refine Seq.p rfl (Ev.lenSl sl.sl_sl_uint8 (hr := hr.r)) ?_
    refine Seq.p rfl Ev.move ?_
    refine Seq.nil ?_
    refine JC.blk ?_
    refine JC.loop (α := Nat) (I := fun i e1 H1 => ∃ A c, Has [6, 8, 27, 28, 29, 30, 31, 32, 33, 34] [(6, .slice A ((ps.take i).flatMap (·.l)).length c), (27, .int .i64 (i : Int))] _ e1 ∧ H1 = [bytesC (.slice A ((ps.take i).flatMap (·.l)).length c) ((ps.take i).flatMap (·.l))] ∧ i ≤ ps.length) (μ := fun i => ps.length - i) 0 ⟨A24, c24, Has.mk Off.refl (allLook_cons (by repeat (first | exact Look.here | apply Look.there (hne := rfl) | exact Look.const | apply Look.mix rfl | exact Look.arg0 | apply Look.args | exact Look.func)) (allLook_cons (by repeat (first | exact Look.here | apply Look.there (hne := rfl) | exact Look.const | apply Look.mix rfl | exact Look.arg0 | apply Look.args | exact Look.func)) allLook_nil)), rfl, by omega⟩ ?_
    rintro i _ _ ⟨A, c, ⟨u2, rfl⟩, rfl, hi⟩; dsimp only [setL]
    refine JC.rs ?_
    refine Seq.p rfl Ev.lt ?_
    refine Seq.nil ?_
    refine JC.seq ?_
    first | refine JC.c (ht := fun c28 => ?_) (hf := fun c28 => ?_) | refine JC.cb (ht := fun c28 => ?_) (hf := fun c28 => ?_)
    · -- then_t28
      have hi2 : i < ps.length := by omega
      have hft := flat_take (·.l) hi2
      have hfl := flat_le (·.l) ps (i + 1)
      have hfl2 := congrArg List.length hft
      rw [List.length_append] at hfl2
      have hpi := hp _ (get_memS hi2)
      refine JC.skip ?_
      refine JC.seq ?_
      refine JC.blk ?_
      refine JC.rs ?_
      refine Seq.p rfl (Ev.iaN sl.sl_sl_uint8 (hr := hr.r)) ?_
      refine Seq.p rfl (Ev.ldE1 sc.sl_uint8 (hr := hr.r)) ?_
      refine Seq.p rfl Ev.assign ?_
      refine Seq.nil ?_
      refine JC.reg ?_
      refine Seq.p rfl Ev.move ?_
      refine Seq.p rfl Ev.move ?_
      refine Seq.append (hsl := sl.sl_uint8) (he := el.uint8) (hsrc := (fun w' hw => Src.rsl sl.sl_uint8 (hpi.up hw) (by omega) byteOne)) (k := ?_); intro A33 c33
      refine Seq.p rfl Ev.assign ?_
      refine Seq.nil ?_
      refine JC.reg ?_
      refine Seq.p rfl (by first | exact Ev.inc | exact Ev.add) ?_
      refine Seq.p rfl Ev.move ?_
      refine Seq.nil ?_
      refine ⟨i + 1, _, Part.refl _, ⟨A33, c33, Has.mk (by repeat (first | refine Off.upd ?_ rfl | exact Off.mix | refine Off.mix2 ?_ rfl | exact Off.refl)) (allLook_cons (by rw [hfl2]; exact (by repeat (first | exact Look.here | apply Look.there (hne := rfl) | exact Look.const | apply Look.mix rfl | exact Look.arg0 | apply Look.args | exact Look.func))) (allLook_cons (by repeat (first | exact Look.here | apply Look.there (hne := rfl) | exact Look.const | apply Look.mix rfl | exact Look.arg0 | apply Look.args | exact Look.func)) allLook_nil)), ?_, by omega⟩, by omega⟩
      rw [hft, bytesC_append _ _ _ _ rfl, List.length_append]
      rfl
    · -- else_t28
      obtain rfl : i = ps.length := by omega
      rw [List.take_length]
      refine JC.exit ?_ -- 2
      refine JC.rs ?_
      refine Seq.p rfl Ev.move ?_
      refine Seq.p rfl Ev.assign ?_
      refine Seq.nil ?_
      refine JC.ret ?_
      -- return 0
      show retQ _ _ _ _ _ _ _ _
      refine ret1 (hp := Part.refl _) (hpost := ?_)
      subst hm
      exact ⟨A, c, rfl, rfl⟩
set_option maxHeartbeats 1000000 in
set_option maxRecDepth 100000 in
theorem textField {w : World} {n : Nat} {v : ByteArray} (hn : n < 10000) (hv : v.size ≤ 70368744177664) (hL : Laid w) :
    Spec Go.Proofs.Tryd.prog 38 #[.int .i64 (n : Int), .string v] w [] (fun u H' => ∃ A c, u = .slice A (fieldL n v).length c ∧ H' = [bytesC (.slice A (fieldL n v).length c) (fieldL n v)]) := by
  have hd4 := decL_four hn
  have hi : (⟨(itoa (n : Int)).toArray⟩ : ByteArray) = decS n := by rw [itoa_nonneg]; rfl
  have hds : (decS n).size = (decL n).length := by rw [← strOf_dec, strOf_size]
  have hss : (decS n ++ ⟨#[61]⟩ ++ v).size = (fldL n v).length := by
    rw [ByteArray.size_append, ByteArray.size_append, hds, fld_len]
    rfl
  have hbo : bytesOf (decS n ++ ⟨#[61]⟩ ++ v) = fldL n v := by
    rw [bytesOf_app, bytesOf_app, bytesOf_dec]
    unfold fldL
    rw [List.append_assoc]
    rfl
  have hfl := fld_len n v
  refine Spec.enter (fn := Go.Proofs.Tryd.f38) (n := 13) [.int .i64 (n : Int), .string v] Go.Proofs.Tryd.func38 (by kernel_rfl) rfl Go.Proofs.Tryd.ntmps38 Go.Proofs.Tryd.results38 rfl (Own.nil _) ?_
  refine JC.rs ?_
  refine Seq.p rfl Ev.assign ?_
  refine Seq.nil ?_
  refine JC.rs ?_
  refine Seq.p rfl Ev.move ?_
  refine Seq.callP rfl (fun w hw => hi ▸ textItoa (by omega) (by omega) (hL.upd hw)) ?_
  refine Seq.p rfl (Ev.addStr (h := by rw [hds]; show _ + 1 ≤ _; omega)) ?_
  refine Seq.p rfl Ev.move ?_
  refine Seq.p rfl (Ev.addStr (h := by rw [ByteArray.size_append, hds]; show _ + 1 + _ ≤ _; omega)) ?_
  refine Seq.strBytes (hs := st.string) (hd := sl.sl_uint8) (he := it.uint8) (hsz := by omega) (k := ?_); intro b10 c10
  rw [hss, hbo]
  refine Seq.buildSlN [_] (hsl := sl.sl_uint8) (hz := z.uint8) (k := ?_); intro b11
  refine Seq.append (hsl := sl.sl_uint8) (he := el.uint8) (hsrc := (fun w' hw => Src.box (hl := by rfl) (hc := fun q u hu => hu) sl.sl_uint8 At.z hw)) (k := ?_); intro A12 c12
  refine Seq.p rfl Ev.assign ?_
  refine Seq.nil ?_
  refine JC.ret ?_
  -- return 0
  show retQ _ _ _ _ _ _ _ _
  refine ret1 (hp := Part.skip (Part.refl _)) (hpost := ?_)
  refine ⟨A12, c12, ?_, ?_⟩
  · unfold fieldL; rw [List.length_append]; rfl
  · unfold fieldL; rw [bytesC_append _ _ _ _ rfl, List.length_append]; rfl
end Go.Rx
/- The program's Encode is the plain function. -/
namespace Go.Rx
open Go Go.RowKit Go.Lib Go.Proofs.YtcggppjpnepoiaaDoor
set_option linter.unusedVariables false
set_option linter.unusedSimpArgs false
def bodyTo (kind : ByteArray) (xs : List Tg) (i : Nat) : List Int := fieldL 35 kind ++ (xs.take i).flatMap fun t => fieldL t.tag.toNat t.value
theorem bodyTo_succ {kind : ByteArray} {xs : List Tg} {i : Nat} (h : i < xs.length) : bodyTo kind xs (i + 1) = bodyTo kind xs i ++ fieldL (xs[i]!).tag.toNat (xs[i]!).value := by
  unfold bodyTo
  rw [flat_take _ h, List.append_assoc]
theorem bodyTo_le (kind : ByteArray) (xs : List Tg) (i : Nat) : (bodyTo kind xs i).length ≤ (bodyL kind xs).length := by
  unfold bodyTo bodyL
  rw [List.length_append, List.length_append]
  have := flat_le (fun t : Tg => fieldL t.tag.toNat t.value) xs i
  omega
theorem bodyTo_all (kind : ByteArray) (xs : List Tg) : bodyTo kind xs xs.length = bodyL kind xs := by
  unfold bodyTo bodyL
  rw [List.take_length]
theorem bytesOf_begin : bytesOf beginS = beginL := by decide
theorem encE_bad {xs : List Tg} {i : Nat} (hi : i < xs.length) (h : refusedF (xs.take i) xs[i]! ≠ 0) : encE (xs.take i) (xs.drop i) = refusedF (xs.take i) xs[i]! := by
  rw [List.drop_eq_getElem_cons hi, ← getElem!_pos xs i hi]
  unfold encE
  exact if_pos h
theorem encE_next {xs : List Tg} {i : Nat} (hi : i < xs.length) (h : ¬ refusedF (xs.take i) xs[i]! ≠ 0) : encE (xs.take i) (xs.drop i) = encE (xs.take (i + 1)) (xs.drop (i + 1)) := by
  rw [List.drop_eq_getElem_cons hi, ← getElem!_pos xs i hi, List.take_succ_eq_append_getElem hi, ← getElem!_pos xs i hi]
  conv => lhs; unfold encE
  exact if_neg h
theorem encF_kind {kind : ByteArray} {xs : List Tg} (h : kindB kind = false) : encF kind xs = (3, []) := if_pos h
theorem encF_many {kind : ByteArray} {xs : List Tg} (h : ¬ kindB kind = false) (h1 : 64 < xs.length) : encF kind xs = (2, []) := by unfold encF; rw [if_neg h, if_pos h1]
theorem encF_ref {kind : ByteArray} {xs : List Tg} (h : ¬ kindB kind = false) (h1 : ¬ 64 < xs.length) (h2 : encE [] xs ≠ 0) : encF kind xs = (encE [] xs, []) := by unfold encF; rw [if_neg h, if_neg h1, if_pos h2]
theorem encF_long {kind : ByteArray} {xs : List Tg} (h : ¬ kindB kind = false) (h1 : ¬ 64 < xs.length) (h2 : ¬ encE [] xs ≠ 0) (h3 : 2048 < (lineL kind xs).length) : encF kind xs = (2, []) := by unfold encF; rw [if_neg h, if_neg h1, if_neg h2, if_pos h3]
theorem encF_line {kind : ByteArray} {xs : List Tg} (h : ¬ kindB kind = false) (h1 : ¬ 64 < xs.length) (h2 : ¬ encE [] xs ≠ 0) (h3 : ¬ 2048 < (lineL kind xs).length) : encF kind xs = (0, lineL kind xs) := by unfold encF; rw [if_neg h, if_neg h1, if_neg h2, if_neg h3]
theorem decL_nineteen {n : Nat} (h : n ≤ 1099511627776) : (decL n).length ≤ 19 := by
  have h1 := natF_dec (n := n) (by omega)
  have h2 : (decL n).length ≤ 20 := by
    unfold natF at h1
    split at h1
    · cases h1
    · rename_i hc
      rw [strOf_size] at hc
      omega
  rcases Nat.lt_or_ge (decL n).length 20 with h3 | h3
  · omega
  · exfalso
    have s : ∀ k : Nat, ¬ k < 10 → (decDigits k).length = (decDigits (k / 10)).length + 1 := fun k hk => by
      rw [decDigits, dif_neg hk, List.length_append]
      rfl
    have e : ∀ k : Nat, k < 10 → (decDigits k).length = 1 := fun k hk => by rw [decDigits_one hk]; rfl
    have key : ∀ m k : Nat, k < 10 ^ (m + 1) → (decDigits k).length ≤ m + 1 := by
      intro m
      induction m with
      | zero => intro k hk; rw [e k (by simpa using hk)]; exact Nat.le_refl _
      | succ m ih =>
        intro k hk
        by_cases h1 : k < 10
        · rw [e k h1]; omega
        · rw [s k h1]
          have := ih (k / 10) (by rw [Nat.pow_succ] at hk; omega)
          omega
    have h4 := key 18 n (by have : (10 : Nat) ^ (18 + 1) = 10000000000000000000 := by decide
                            omega)
    have h5 : (decL n).length = (decDigits n).length := by unfold decL; rw [List.length_map]
    omega
set_option maxHeartbeats 1000000 in
set_option maxRecDepth 100000 in
theorem textEncode {w : World} {v : Value} {kind : ByteArray} {xs : List Tg} (hr : RSl Tg.enc 2 w [] v xs) (hk : kind.size ≤ 281474976710656) (hsz : ∀ t ∈ xs, t.value.size ≤ 70368744177664) (hb : (bodyL kind xs).length ≤ 1099511627776) (hL : Laid w) :
    Spec Go.Proofs.Tryd.prog 23 #[.string kind, v] w [] (fun u H' => ∃ A c, u = .tuple #[.slice A (encF kind xs).2.length c, .int .i64 (encF kind xs).1] ∧ H' = [bytesC (.slice A (encF kind xs).2.length c) (encF kind xs).2]) := by
  have hsm := hr.small
  obtain ⟨ec, eb, hef⟩ : ∃ a b, encF kind xs = (a, b) := ⟨_, _, rfl⟩
  rw [hef]
  obtain ⟨f35, hf35⟩ : ∃ f, f = fieldL 35 kind := ⟨_, rfl⟩
  obtain ⟨body, hbody⟩ : ∃ f, f = bodyL kind xs := ⟨_, rfl⟩
  obtain ⟨ds, hds0⟩ : ∃ f, f = beginL ++ decL body.length := ⟨_, rfl⟩
  obtain ⟨front, hfront⟩ : ∃ f, f = frontL kind xs := ⟨_, rfl⟩
  obtain ⟨la, hla⟩ : ∃ f, f = lastL front := ⟨_, rfl⟩
  obtain ⟨line, hline⟩ : ∃ f, f = lineL kind xs := ⟨_, rfl⟩
  have hll : line = front ++ la := by rw [hline, hla, hfront]; rfl
  have hl7 : la.length = 7 := by rw [hla]; rfl
  have hll3 : line.length = front.length + 7 := by rw [hll, List.length_append, hl7]
  have hd19 := decL_nineteen hb
  have hfl := front_len kind xs
  rw [← hfront] at hfl
  rw [← hbody] at hb hd19 hfl
  have hdl : ds.length = 10 + (decL body.length).length := by rw [hds0, List.length_append]; rfl
  have hdz : (decS body.length).size = (decL body.length).length := by rw [← strOf_dec, strOf_size]
  have hit : (⟨(itoa (body.length : Int)).toArray⟩ : ByteArray) = decS body.length := by rw [itoa_nonneg]; rfl
  have hss : (beginS ++ decS body.length).size = ds.length := by rw [ByteArray.size_append, hdl, hdz]; rfl
  have hbo : bytesOf (beginS ++ decS body.length) = ds := by rw [bytesOf_app, bytesOf_dec, bytesOf_begin, hds0]
  have hfe : front = ds ++ [1] ++ body := by rw [hfront, hds0, hbody]; rfl
  have hBl : isBytes la := by rw [hla]; exact isBytes_last _
  have hfB : isBytes front := by
    rw [hfe]
    intro x hx
    rcases List.mem_append.1 hx with hx | hx
    · rcases List.mem_append.1 hx with hx | hx
      · rw [hds0] at hx
        rcases List.mem_append.1 hx with hx | hx
        · have hbb : isBytes beginL := by
            intro x hx
            simp only [beginL, List.mem_cons, List.not_mem_nil, or_false] at hx
            omega
          exact hbb x hx
        · exact decL_bytes _ x hx
      · rw [List.mem_singleton.1 hx]; decide
    · have hfb : ∀ (n : Nat) (v : ByteArray), isBytes (fieldL n v) := fun n v y hy => by
        unfold fieldL fldL at hy
        rcases List.mem_append.1 hy with hy | hy
        · rcases List.mem_append.1 hy with hy | hy
          · exact decL_bytes _ y hy
          · rcases List.mem_cons.1 hy with rfl | hy
            · decide
            · exact bytesOf_range _ y hy
        · rw [List.mem_singleton.1 hy]; decide
      rw [hbody] at hx
      unfold bodyL at hx
      rcases List.mem_append.1 hx with hx | hx
      · exact hfb _ _ x hx
      · obtain ⟨t, _, ht⟩ := List.mem_flatMap.1 hx
        exact hfb _ _ x ht
  have hsl : strOf la = strOf (lastL front) := by rw [hla]
  have hslz : (strOf la).size = la.length := strOf_size la
  have hslb : bytesOf (strOf la) = la := bytesOf_str hBl
  refine Spec.enter (fn := Go.Proofs.Tryd.f23) (n := 61) [.string kind, v] Go.Proofs.Tryd.func23 (by kernel_rfl) rfl Go.Proofs.Tryd.ntmps23 Go.Proofs.Tryd.results23 rfl (Own.nil _) ?_
  refine JC.re (fun w h => h.nilOwn 5 1) ?_
  refine JC.rs ?_
  refine Seq.p rfl Ev.assign ?_
  refine Seq.p rfl Ev.assign ?_
  refine Seq.nil ?_
  refine JC.seq ?_
  refine JC.blk ?_
  refine JC.rs ?_
  refine Seq.p rfl Ev.move ?_
  refine Seq.callP rfl (fun w hw => textIsKind hk) ?_
  refine Seq.p rfl Ev.not ?_
  refine Seq.p rfl Ev.assign ?_
  refine Seq.nil ?_
  first | refine JC.c (ht := fun c11 => ?_) (hf := fun c11 => ?_) | refine JC.cb (ht := fun c11 => ?_) (hf := fun c11 => ?_)
  · -- then_t11
    have h1 : kindB kind = false := by simpa using c11
    refine JC.rs ?_
    refine Seq.p rfl Ev.assign ?_
    refine Seq.p rfl Ev.assign ?_
    refine Seq.nil ?_
    refine JC.ret ?_
    -- return 0
    show retQ _ _ _ _ _ _ _ _
    refine ret2 (H' := [bytesC (.slice none 0 0) []]) (hp := (by repeat (first | exact Part.nil _ | refine Part.at (by repeat (first | exact At.z | apply At.s)) ?_))) (hpost := ?_)
    rw [encF_kind h1] at hef
    cases hef
    exact ⟨none, 0, rfl, rfl⟩
  · -- else_t11
    have h1 : ¬ kindB kind = false := by simpa using c11
    refine JC.rs ?_
    refine Seq.p rfl Ev.move ?_
    refine Seq.p rfl (Ev.lenSl sl.sl_api_Tag (hr := hr.r)) ?_
    refine Seq.p rfl Ev.gt ?_
    refine Seq.p rfl Ev.assign ?_
    refine Seq.nil ?_
    first | refine JC.c (ht := fun c15 => ?_) (hf := fun c15 => ?_) | refine JC.cb (ht := fun c15 => ?_) (hf := fun c15 => ?_)
    · -- then_t15
      refine JC.rs ?_
      refine Seq.p rfl Ev.assign ?_
      refine Seq.p rfl Ev.assign ?_
      refine Seq.nil ?_
      refine JC.ret ?_
      -- return 1
      show retQ _ _ _ _ _ _ _ _
      refine ret2 (H' := [bytesC (.slice none 0 0) []]) (hp := (by repeat (first | exact Part.nil _ | refine Part.at (by repeat (first | exact At.z | apply At.s)) ?_))) (hpost := ?_)
      rw [encF_many h1 (by omega)] at hef
      cases hef
      exact ⟨none, 0, rfl, rfl⟩
    · -- else_t15
      have h2 : ¬ 64 < xs.length := by omega
      have hb0 : bodyTo kind xs 0 = f35 := by rw [hf35]; simp [bodyTo]
      have hkz : kind.size ≤ 70368744177664 := by
        have h5 := bodyTo_le kind xs 0
        rw [hb0, hf35, field_len, ← hbody] at h5
        omega
      refine JC.skip ?_
      refine JC.rs ?_
      refine Seq.p rfl Ev.move ?_
      refine Seq.call rfl (fun w' hw => by have h := textField (n := 35) (by decide) hkz (hL.upd hw); rw [← hf35] at h; exact h) (F := _) (by exact List.Perm.refl _) ?_
      rintro _ _ ⟨A20, c20, rfl, rfl⟩
      simp only [List.cons_append, List.nil_append]
      refine Seq.p rfl Ev.assign ?_
      refine Seq.nil ?_
      refine JC.seq ?_
      refine JC.rs ?_
      refine Seq.p rfl Ev.move ?_
      refine Seq.p rfl (Ev.lenSl sl.sl_api_Tag (hr := hr.r)) ?_
      refine Seq.p rfl Ev.move ?_
      refine Seq.nil ?_
      refine JC.blk ?_
      refine JC.loop (α := Nat) (I := fun i e1 H1 => ∃ A c m, Has [4, 5, 6, 7, 8, 9, 23, 24, 25, 26, 27, 28, 29, 30, 31, 32, 33, 34, 35, 36, 37, 38, 39, 40, 41, 42, 43] [(6, .slice A m.length c), (23, .int .i64 (i : Int))] _ e1 ∧ H1 = [bytesC (.slice A m.length c) m, bytesC (.slice none 0 0) []] ∧ i ≤ xs.length ∧ encE (xs.take i) (xs.drop i) = encE [] xs ∧ m = bodyTo kind xs i) (μ := fun i => xs.length - i) 0 ⟨A20, c20, f35, Has.mk Off.refl (allLook_cons (by repeat (first | exact Look.here | apply Look.there (hne := rfl) | exact Look.const | apply Look.mix rfl | exact Look.arg0 | apply Look.args | exact Look.func)) (allLook_cons (by repeat (first | exact Look.here | apply Look.there (hne := rfl) | exact Look.const | apply Look.mix rfl | exact Look.arg0 | apply Look.args | exact Look.func)) allLook_nil)), rfl, by omega, rfl, hb0.symm⟩ ?_
      rintro i _ _ ⟨A, c, m, ⟨u, rfl⟩, rfl, hi, he, hm⟩; dsimp only [setL]
      refine JC.rs ?_
      refine Seq.p rfl Ev.lt ?_
      refine Seq.nil ?_
      refine JC.seq ?_
      first | refine JC.c (ht := fun c24 => ?_) (hf := fun c24 => ?_) | refine JC.cb (ht := fun c24 => ?_) (hf := fun c24 => ?_)
      · -- then_t24
        have hi2 : i < xs.length := by omega
        have htake : RSl Tg.enc 2 w [] (subSl v 0 i 2) (xs.take i) := by
          have h3 := hr.sub (lo := 0) (hi := i) (by omega) (by omega)
          rwa [List.drop_zero] at h3
        have hvs := hsz _ (get_memS hi2)
        refine JC.skip ?_
        refine JC.seq ?_
        refine JC.blk ?_
        refine JC.rs ?_
        refine Seq.p rfl Ev.move ?_
        refine Seq.p rfl (Ev.iaN sl.sl_api_Tag (hr := hr.r)) ?_
        refine Seq.p rfl (Ev.ldEA ag.api_Tag (hr := hr.r)) ?_
        refine Seq.alloc (cs := [_, _]) (hz := z.api_Tag) (k := ?_); intro b8
        refine Seq.p rfl Ev.assign ?_
        refine Seq.storeN [_, _] sz.api_Tag (k := ?_)
        refine Seq.nil ?_
        refine JC.seq ?_
        refine JC.qs mixed (by kernel_rfl) ?_
        refine Qui.p rfl Ev.move ?_
        refine Qui.p rfl Ev.move ?_
        refine Qui.p rfl (Ev.cut sl.sl_api_Tag (hr := hr.r) (l := 0) (h := i) (hlo := rfl) (hhi := ⟨_, (by repeat (first | exact Look.here | apply Look.there (hne := rfl) | exact Look.const | apply Look.mix rfl | exact Look.arg0 | apply Look.args | exact Look.func))⟩)) ?_
        refine Qui.p rfl (Ev.ldBA ag.api_Tag) ?_
        refine Qui.call rfl (fun w hw => textRefused (t := xs[i]!) (htake.up hw) (by omega)) ?_
        refine Qui.p rfl Ev.assign ?_
        refine Qui.nil ?_
        refine JC.rs ?_
        refine Seq.p rfl Ev.move ?_
        refine Seq.p rfl Ev.ne ?_
        refine Seq.nil ?_
        first | refine JC.c (ht := fun c34 => ?_) (hf := fun c34 => ?_) | refine JC.cb (ht := fun c34 => ?_) (hf := fun c34 => ?_)
        · -- then_t34
          refine JC.rs ?_
          refine Seq.p rfl Ev.move ?_
          refine Seq.p rfl Ev.assign ?_
          refine Seq.p rfl Ev.assign ?_
          refine Seq.nil ?_
          refine JC.ret ?_
          -- return 2
          show retQ _ _ _ _ _ _ _ _
          refine ret2 (H' := [bytesC (.slice none 0 0) []]) (hp := (by repeat (first | exact Part.nil _ | refine Part.at (by repeat (first | exact At.z | apply At.s)) ?_))) (hpost := ?_)
          have h4 := encE_bad hi2 c34
          rw [encF_ref h1 h2 (by rw [← he, h4]; exact c34), ← he, h4] at hef
          cases hef
          exact ⟨none, 0, rfl, rfl⟩
        · -- else_t34
          have h4 := encE_next hi2 c34
          obtain ⟨q1, q2, q3⟩ := refused_ok (Classical.not_not.1 c34)
          obtain ⟨g1, g2, g3⟩ := tag_range q1
          have hbs := bodyTo_succ (kind := kind) hi2
          have hbl := bodyTo_le kind xs (i + 1)
          obtain ⟨fl, hfl2⟩ : ∃ f, f = fieldL (xs[i]!).tag.toNat (xs[i]!).value := ⟨_, rfl⟩
          rw [← hm, ← hfl2] at hbs
          rw [hbs, List.length_append, ← hbody] at hbl
          refine JC.skip ?_
          refine JC.reg ?_
          refine Seq.p rfl Ev.move ?_
          refine Seq.p rfl (Ev.faB fd.api_Tag_0) ?_
          refine Seq.p rfl (Ev.ldB sc.int) ?_
          refine Seq.p rfl (Ev.faB fd.api_Tag_1) ?_
          refine Seq.p rfl (Ev.ldB sc.string) ?_
          refine Seq.call rfl (fun w' hw => by have h := textField (n := (xs[i]!).tag.toNat) g2 hvs (hL.upd hw); rw [← hfl2, g1] at h; exact h) (F := _) (by exact List.Perm.refl _) ?_
          rintro _ _ ⟨A41, c41, rfl, rfl⟩
          simp only [List.cons_append, List.nil_append]
          refine Seq.append (hsl := sl.sl_uint8) (he := el.uint8) (hH := At.s (At.s At.z)) (hsrc := fun w' hw => Src.rsl sl.sl_uint8 (RAt.up (RAt.own (enc := byteEnc) (xs := fl)) hw) (by omega) byteOne) (k := ?_); intro A42 c42
          rw [← bytesC_append (.slice A42 (m.length + fl.length) c42) m fl _ rfl, ← List.length_append]
          refine Seq.p rfl Ev.assign ?_
          refine Seq.nil ?_
          refine JC.reg ?_
          refine Seq.p rfl (by first | exact Ev.inc | exact Ev.add) ?_
          refine Seq.p rfl Ev.move ?_
          refine Seq.nil ?_
          exact ⟨i + 1, [bytesC (.slice A42 (m ++ fl).length c42) (m ++ fl), bytesC (.slice none 0 0) []], (by repeat (first | exact Part.nil _ | refine Part.at (by repeat (first | exact At.z | apply At.s)) ?_)), ⟨A42, c42, m ++ fl, Has.mk (by repeat (first | refine Off.upd ?_ rfl | exact Off.mix | refine Off.mix2 ?_ rfl | exact Off.refl)) (allLook_cons (by repeat (first | exact Look.here | apply Look.there (hne := rfl) | exact Look.const | apply Look.mix rfl | exact Look.arg0 | apply Look.args | exact Look.func)) (allLook_cons (by repeat (first | exact Look.here | apply Look.there (hne := rfl) | exact Look.const | apply Look.mix rfl | exact Look.arg0 | apply Look.args | exact Look.func)) allLook_nil)), rfl, by omega, by rw [← h4]; exact he, hbs.symm⟩, by omega⟩
      · -- else_t24
        obtain rfl : i = xs.length := by omega
        obtain rfl : m = body := by rw [hm, hbody]; exact bodyTo_all kind xs
        rw [List.take_length, List.drop_length] at he
        have h3 : ¬ encE [] xs ≠ 0 := fun h => h (by rw [← he]; rfl)
        refine JC.exit ?_ -- 1
        refine JC.rs ?_
        refine Seq.p rfl Ev.move ?_
        refine Seq.p rfl (Ev.lenSl sl.sl_uint8 (hr := RAt.own (enc := byteEnc) (xs := m))) ?_
        refine Seq.callP rfl (fun w hw => hit ▸ textItoa (by omega) (by omega) (hL.upd hw)) ?_
        refine Seq.p rfl (Ev.addStr (h := by rw [hdz]; show 10 + _ ≤ _; omega)) ?_
        refine Seq.strBytes (hs := st.string) (hd := sl.sl_uint8) (he := it.uint8) (hsz := by show (beginS ++ decS m.length).size ≤ _; omega) (k := ?_); intro b48 c48
        rw [hss, hbo]
        refine Seq.buildSlN _ (hsl := sl.sl_uint8) (hz := z.uint8) (k := ?_); intro b49
        refine Seq.re (fun w h => Upd.boxOwn h (n := 1) (size := 1) At.z rfl (by omega)) ?_
        refine Seq.p rfl Ev.move ?_
        refine Seq.buildSlN [_, _, _] (hsl := sl.sl_sl_uint8) (hz := z.sl_uint8) (k := ?_); intro b51
        obtain ⟨ps, hps⟩ : ∃ ps : List Sb, ps = [⟨.slice (some ⟨b48, 0, none⟩) ds.length c48, ds⟩, ⟨.slice (some ⟨b49, 0, none⟩) 1 1, [1]⟩, ⟨.slice A m.length c, m⟩] := ⟨_, rfl⟩
        have hpf : ps.flatMap (·.l) = front := by rw [hps, hfe]; simp [List.flatMap_cons]
        refine Seq.call rfl (fun w' hw => by
          have h7 := concatBytes (w := w') (v := .slice (some ⟨b51, 0, none⟩) 3 3) (ps := ps) (RAt.up (RAt.box (enc := Sb.enc) (xs := ps) (m := 3) (hH := At.z) (hcs := by rw [hps]; rfl) (hm := by rw [hps]; rfl) (hs := by rw [hps]; show 3 ≤ 4611686018427387904; decide)) hw) (by
            intro p hp
            rw [hps] at hp
            simp only [List.mem_cons, List.not_mem_nil, or_false] at hp
            rcases hp with rfl | rfl | rfl
            · exact RAt.up (RAt.own (enc := byteEnc) (xs := ds)) hw
            · exact RAt.up (RAt.own (enc := byteEnc) (xs := [1]) (hs := by decide)) hw
            · exact RAt.up (RAt.own (enc := byteEnc) (xs := m)) hw) (by rw [hpf]; omega)
          rw [hpf] at h7
          exact h7) (F := _) (by exact List.Perm.refl _) ?_
        rintro _ _ ⟨A52, c52, rfl, rfl⟩
        simp only [List.cons_append, List.nil_append]
        refine Seq.p rfl Ev.assign ?_
        refine Seq.nil ?_
        refine JC.rs ?_
        refine Seq.p rfl Ev.move ?_
        refine Seq.p rfl Ev.move ?_
        refine Seq.callP (v := .string (strOf la)) rfl (fun w' hw => by have h := textLast (RAt.up (RAt.own (enc := byteEnc) (xs := front)) hw) hfB (hL.upd hw); rw [← hsl] at h; exact h) ?_
        refine Seq.append (hsl := sl.sl_uint8) (he := el.uint8) (hH := At.z) (hsrc := fun w' hw => Src.str st.string (strOf la) w') (h63 := by omega) (hb := by omega) (k := ?_); intro A56 c56
        rw [hslz, hslb, ← bytesC_append (.slice A56 (front.length + la.length) c56) front la _ rfl, ← List.length_append, ← hll]
        refine Seq.p rfl Ev.assign ?_
        refine Seq.nil ?_
        refine JC.seq ?_
        refine JC.rs ?_
        refine Seq.p rfl Ev.move ?_
        refine Seq.p rfl (Ev.lenSl sl.sl_uint8 (hr := RAt.own (enc := byteEnc) (xs := line))) ?_
        refine Seq.p rfl Ev.gt ?_
        refine Seq.nil ?_
        first | refine JC.c (ht := fun c59 => ?_) (hf := fun c59 => ?_) | refine JC.cb (ht := fun c59 => ?_) (hf := fun c59 => ?_)
        · -- then_t59
          refine JC.rs ?_
          refine Seq.p rfl Ev.assign ?_
          refine Seq.p rfl Ev.assign ?_
          refine Seq.nil ?_
          refine JC.ret ?_
          -- return 3
          show retQ _ _ _ _ _ _ _ _
          refine ret2 (H' := [bytesC (.slice none 0 0) []]) (hp := (by repeat (first | exact Part.nil _ | refine Part.at (by repeat (first | exact At.z | apply At.s)) ?_))) (hpost := ?_)
          rw [encF_long h1 h2 h3 (by rw [← hline]; omega)] at hef
          cases hef
          exact ⟨none, 0, rfl, rfl⟩
        · -- else_t59
          refine JC.skip ?_
          refine JC.rs ?_
          refine Seq.p rfl Ev.move ?_
          refine Seq.p rfl Ev.assign ?_
          refine Seq.p rfl Ev.assign ?_
          refine Seq.nil ?_
          refine JC.ret ?_
          -- return 4
          show retQ _ _ _ _ _ _ _ _
          refine ret2 (H' := [bytesC (.slice A56 line.length c56) line]) (hp := (by repeat (first | exact Part.nil _ | refine Part.at (by repeat (first | exact At.z | apply At.s)) ?_))) (hpost := ?_)
          rw [encF_line h1 h2 h3 (by rw [← hline]; omega), ← hline] at hef
          cases hef
          exact ⟨A56, c56, rfl, rfl⟩
end Go.Rx
/- The laws bourselaw03.TextBack and TextSpoilt give true: the plain part, and TextBack's walk. -/
namespace Go.Rx
open Go Go.RowKit Go.Lib Go.Proofs.YtcggppjpnepoiaaDoor
set_option linter.unusedVariables false
set_option linter.unusedSimpArgs false
theorem one_ok : ∃ one, encF ⟨#[48]⟩ [] = (0, one) ∧ 0 < one.length := by
  have h1 := line_len ⟨#[48]⟩ []
  have h2 : (bodyL ⟨#[48]⟩ []).length = (decL 35).length + 2 + 1 := by
    unfold bodyL
    rw [List.flatMap_nil, List.append_nil, field_len]
    rfl
  have h3 := decL_four (n := 35) (by decide)
  have h4 := decL_four (n := (bodyL ⟨#[48]⟩ []).length) (by omega)
  exact ⟨lineL ⟨#[48]⟩ [], encF_line (by decide) (by decide) (by decide) (by omega), by omega⟩
theorem one_body : (bodyL ⟨#[48]⟩ []).length ≤ 1099511627776 := by
  have h2 : (bodyL ⟨#[48]⟩ []).length = (decL 35).length + 2 + 1 := by
    unfold bodyL
    rw [List.flatMap_nil, List.append_nil, field_len]
    rfl
  have h3 := decL_four (n := 35) (by decide)
  omega
theorem field_bytes (n : Nat) (v : ByteArray) : isBytes (fieldL n v) := fun y hy => by
  unfold fieldL fldL at hy
  rcases List.mem_append.1 hy with hy | hy
  · rcases List.mem_append.1 hy with hy | hy
    · exact decL_bytes _ y hy
    · rcases List.mem_cons.1 hy with rfl | hy
      · decide
      · exact bytesOf_range _ y hy
  · rw [List.mem_singleton.1 hy]; decide
theorem app_bytes {a b : List Int} (ha : isBytes a) (hb : isBytes b) : isBytes (a ++ b) := fun x hx => by
  rcases List.mem_append.1 hx with h | h
  · exact ha x h
  · exact hb x h
theorem line_bytes (kind : ByteArray) (xs : List Tg) : isBytes (lineL kind xs) := by
  have hbb : isBytes beginL := by
    intro x hx
    simp only [beginL, List.mem_cons, List.not_mem_nil, or_false] at hx
    omega
  have h1 : isBytes [1] := by
    intro x hx
    rw [List.mem_singleton.1 hx]; decide
  have hbo : isBytes (bodyL kind xs) := by
    refine app_bytes (field_bytes _ _) fun x hx => ?_
    obtain ⟨t, _, ht⟩ := List.mem_flatMap.1 hx
    exact field_bytes _ _ x ht
  exact app_bytes (app_bytes (app_bytes (app_bytes hbb (decL_bytes _)) h1) hbo) (isBytes_last _)
theorem encF_len (kind : ByteArray) (xs : List Tg) : (encF kind xs).2.length ≤ 2048 := by
  unfold encF
  split
  · exact Nat.zero_le _
  · split
    · exact Nat.zero_le _
    · split
      · exact Nat.zero_le _
      · split
        · exact Nat.zero_le _
        · show (lineL kind xs).length ≤ 2048
          omega
theorem encF_body {kind : ByteArray} {xs : List Tg} {l : List Int} (h : encF kind xs = (0, l)) : (bodyL kind xs).length ≤ 1099511627776 := by
  obtain ⟨_, _, _, h1, _⟩ := encF_ok h
  rw [line_len] at h1
  omega
set_option maxHeartbeats 1000000 in
set_option maxRecDepth 100000 in
theorem lawSame {w : World} {va vb : Value} {xs ys : List Int} (ha : RSl byteEnc 1 w [] va xs) (hb : RSl byteEnc 1 w [] vb ys) :
    Spec Go.Proofs.Tryd.prog 24 #[va, vb] w [] (fun u _ => u = .bool (decide (xs = ys))) := by
  have ha1 := ha.small
  have hb1 := hb.small
  refine Spec.enter (fn := Go.Proofs.Tryd.f24) (n := 26) [va, vb] Go.Proofs.Tryd.func24 (by kernel_rfl) rfl Go.Proofs.Tryd.ntmps24 Go.Proofs.Tryd.results24 rfl (Own.nil _) ?_
  refine JC.rs ?_
  refine Seq.p rfl Ev.assign ?_
  refine Seq.nil ?_
  refine JC.seq ?_
  refine JC.rs ?_
  refine Seq.p rfl Ev.move ?_
  refine Seq.p rfl (Ev.lenSl sl.sl_uint8 (hr := ha.r)) ?_
  refine Seq.p rfl Ev.move ?_
  refine Seq.p rfl (Ev.lenSl sl.sl_uint8 (hr := hb.r)) ?_
  refine Seq.p rfl Ev.ne ?_
  refine Seq.nil ?_
  first | refine JC.c (ht := fun c10 => ?_) (hf := fun c10 => ?_) | refine JC.cb (ht := fun c10 => ?_) (hf := fun c10 => ?_)
  · -- then_t10
    refine JC.rs ?_
    refine Seq.p rfl Ev.assign ?_
    refine Seq.nil ?_
    refine JC.ret ?_
    -- return 0
    show retQ _ _ _ _ _ _ _ _
    refine ret1 (hp := Part.nil _) (hpost := ?_)
    have : ¬ xs = ys := fun h => c10 (by rw [h])
    rw [decide_eq_false this]
  · -- else_t10
    have hl : xs.length = ys.length := by omega
    refine JC.skip ?_
    refine JC.seq ?_
    refine JC.rs ?_
    refine Seq.p rfl Ev.assign ?_
    refine Seq.nil ?_
    refine JC.blk ?_
    refine JC.loop (α := Nat) (I := fun i e1 H1 => Has [4, 5, 11, 12, 13, 14, 15, 16, 17, 18, 19, 20, 21, 22, 23, 24, 25] [(5, .int .i64 (i : Int))] _ e1 ∧ H1 = _ ∧ i ≤ xs.length ∧ ∀ j < i, xs[j]! = ys[j]!) (μ := fun i => xs.length - i) 0 ⟨Has.mk Off.refl (allLook_cons (by repeat (first | exact Look.here | apply Look.there (hne := rfl) | exact Look.const | apply Look.mix rfl | exact Look.arg0 | apply Look.args | exact Look.func)) allLook_nil), rfl, by omega, by omega⟩ ?_
    rintro i _ _ ⟨⟨u, rfl⟩, rfl, hi, hno⟩; dsimp only [setL]
    refine JC.seq ?_
    refine JC.rs ?_
    refine Seq.p rfl Ev.move ?_
    refine Seq.p rfl Ev.move ?_
    refine Seq.p rfl (Ev.lenSl sl.sl_uint8 (hr := ha.r)) ?_
    refine Seq.p rfl Ev.lt ?_
    refine Seq.nil ?_
    first | refine JC.c (ht := fun c14 => ?_) (hf := fun c14 => ?_) | refine JC.cb (ht := fun c14 => ?_) (hf := fun c14 => ?_)
    · -- then_t14
      have hi2 : i < xs.length := by omega
      refine JC.skip ?_
      refine JC.seq ?_
      refine JC.blk ?_
      refine JC.qs mixed (by kernel_rfl) ?_
      refine Qui.p rfl Ev.move ?_
      refine Qui.p rfl Ev.move ?_
      refine Qui.p rfl (Ev.iaN sl.sl_uint8 (hr := ha.r)) ?_
      refine Qui.p rfl (Ev.ldE1 sc.uint8 (hr := ha.r)) ?_
      refine Qui.p rfl Ev.move ?_
      refine Qui.p rfl Ev.move ?_
      refine Qui.p rfl (Ev.iaN sl.sl_uint8 (hr := hb.r)) ?_
      refine Qui.p rfl (Ev.ldE1 sc.uint8 (hr := hb.r)) ?_
      refine Qui.p rfl Ev.ne ?_
      refine Qui.nil ?_
      first | refine JC.c (ht := fun c25 => ?_) (hf := fun c25 => ?_) | refine JC.cb (ht := fun c25 => ?_) (hf := fun c25 => ?_)
      · -- then_t25
        refine JC.rs ?_
        refine Seq.p rfl Ev.assign ?_
        refine Seq.nil ?_
        refine JC.ret ?_
        -- return 1
        show retQ _ _ _ _ _ _ _ _
        refine ret1 (hp := Part.nil _) (hpost := ?_)
        have : ¬ xs = ys := fun h => c25 (by rw [h])
        rw [decide_eq_false this]
      · -- else_t25
        refine JC.skip ?_
        refine JC.reg ?_
        refine Seq.p rfl Ev.move ?_
        refine Seq.p rfl (by first | exact Ev.inc | exact Ev.add) ?_
        refine Seq.p rfl Ev.assign ?_
        refine Seq.nil ?_
        refine ⟨i + 1, _, Part.refl _, ⟨Has.mk (by repeat (first | refine Off.upd ?_ rfl | exact Off.mix | refine Off.mix2 ?_ rfl | exact Off.refl)) (allLook_cons (by repeat (first | exact Look.here | apply Look.there (hne := rfl) | exact Look.const | apply Look.mix rfl | exact Look.arg0 | apply Look.args | exact Look.func)) allLook_nil), rfl, by omega, fun j hj => ?_⟩, by omega⟩
        by_cases h : j = i
        · rw [h]; exact Classical.not_not.1 c25
        · exact hno j (by omega)
    · -- else_t14
      refine JC.exit ?_ -- 0
      refine JC.rs ?_
      refine Seq.p rfl Ev.assign ?_
      refine Seq.nil ?_
      refine JC.ret ?_
      -- return 2
      show retQ _ _ _ _ _ _ _ _
      refine ret1 (hp := Part.nil _) (hpost := ?_)
      have : xs = ys := by
        apply List.ext_getElem hl
        intro j h1 h2
        have := hno j (by omega)
        rwa [getElem!_pos xs j h1, getElem!_pos ys j h2] at this
      rw [decide_eq_true this]
set_option maxHeartbeats 2000000 in
set_option maxRecDepth 100000 in
theorem lawBack {w : World} {v vb : Value} {kind : ByteArray} {xs : List Tg} {l : List Int} (hr : RSl Tg.enc 2 w [] v xs) (hrb : RSl byteEnc 1 w [] vb l) (hB : isBytes l) (hl : l.length ≤ 70368744177664) (hk : kind.size ≤ 70368744177664) (hsz : ∀ t ∈ xs, t.value.size ≤ 70368744177664) (hx : xs.length ≤ 1099511627776)
    (hb : (bodyL kind xs).length ≤ 1099511627776) (hL : Laid w) :
    Spec Go.Proofs.Tryd.prog 6 #[.string kind, v, vb] w [] (fun u _ => u = .bool true) := by
  obtain ⟨ec, eb, hef⟩ : ∃ a b, encF kind xs = (a, b) := ⟨_, _, rfl⟩
  have heb := encF_len kind xs
  rw [hef] at heb
  replace heb : eb.length ≤ 2048 := heb
  obtain ⟨one, hone, hop⟩ := one_ok
  have hol := encF_len ⟨#[48]⟩ []
  rw [hone] at hol
  replace hol : one.length ≤ 2048 := hol
  have h64 := (readF_tags (l := l) (N := 70368744177664) hl).2
  have hts := (readF_tags (l := l) (N := 70368744177664) hl).1
  obtain ⟨R, hR⟩ : ∃ R, R = readF l := ⟨_, rfl⟩
  rw [← hR] at h64 hts
  refine Spec.enter (fn := Go.Proofs.Tryd.f6) (n := 107) [.string kind, v, vb] Go.Proofs.Tryd.func6 (by kernel_rfl) rfl Go.Proofs.Tryd.ntmps6 Go.Proofs.Tryd.results6 rfl (Own.nil _) ?_
  refine JC.rs ?_
  refine Seq.p rfl Ev.assign ?_
  refine Seq.nil ?_
  refine JC.rs ?_
  refine Seq.p rfl Ev.move ?_
  refine Seq.buildSl (cs := []) (hsl := sl.sl_api_Tag) (hz := z.api_Tag) (hcs := rfl) (k := ?_); intro b3
  refine Seq.re (fun w h => Upd.boxOwn h (n := 0) (size := 2) At.z rfl (by omega)) ?_
  refine Seq.p rfl Ev.move ?_
  refine Seq.append (hsl := sl.sl_api_Tag) (he := el.api_Tag) (hsrc := fun w' hw => Src.rsl sl.sl_api_Tag (hr.up hw) (by omega) tgOne) (k := ?_); intro A6 c6
  rw [Nat.zero_add xs.length, List.nil_append]
  refine Seq.call rfl (fun w' hw => by have h := textEncode (kind := kind) (RAt.up (RAt.own (enc := Tg.enc) (xs := xs)) hw) (by omega) hsz hb (hL.upd hw); rw [hef] at h; exact h) (F := _) (by exact List.Perm.refl _) ?_
  rintro _ _ ⟨A26, c26, rfl, rfl⟩
  simp only [List.cons_append, List.nil_append]
  refine Seq.p rfl Ev.move ?_
  refine Seq.p rfl Ev.extract ?_
  refine Seq.p rfl Ev.extract ?_
  refine Seq.p rfl Ev.assign ?_
  refine Seq.p rfl Ev.assign ?_
  refine Seq.nil ?_
  refine JC.seq ?_
  refine JC.rs ?_
  refine Seq.p rfl Ev.move ?_
  refine Seq.p rfl Ev.eq ?_
  refine Seq.nil ?_
  first | refine JC.c (ht := fun c30 => ?_) (hf := fun c30 => ?_) | refine JC.cb (ht := fun c30 => ?_) (hf := fun c30 => ?_)
  · -- then_t30
    obtain rfl : ec = 0 := c30
    have hre := read_enc hef l
    have hel := (encF_ok hef).2.2.2.2
    have hel2 := (encF_ok hef).2.2.2.1
    rw [← hel] at hel2
    have hBe : isBytes (eb ++ l) := by
      intro x hx
      rcases List.mem_append.1 hx with hx | hx
      · rw [hel] at hx; exact line_bytes kind xs x hx
      · exact hB x hx
    refine JC.rs ?_
    refine Seq.buildSl (cs := []) (hsl := sl.sl_uint8) (hz := z.uint8) (hcs := rfl) (k := ?_); intro b32
    refine Seq.re (fun w h => Upd.boxOwn h (n := 0) (size := 1) At.z rfl (by omega)) ?_
    refine Seq.p rfl Ev.move ?_
    refine Seq.append (hsl := sl.sl_uint8) (he := el.uint8) (hH := At.z) (hsrc := fun w' hw => Src.rsl sl.sl_uint8 (RAt.up (RAt.own (enc := byteEnc) (xs := eb)) hw) (by omega) byteOne) (k := ?_); intro A34 c34
    rw [Nat.zero_add eb.length, List.nil_append]
    refine Seq.p rfl Ev.move ?_
    refine Seq.append (hsl := sl.sl_uint8) (he := el.uint8) (hH := At.z) (hsrc := fun w' hw => Src.rsl sl.sl_uint8 (hrb.up hw) (by omega) byteOne) (k := ?_); intro A36 c36
    rw [← bytesC_append (.slice A36 (eb.length + l.length) c36) eb l _ rfl, ← List.length_append]
    obtain ⟨bz, hbl⟩ : ∃ b, b = eb ++ l := ⟨_, rfl⟩
    have hbll : bz.length = eb.length + l.length := by rw [hbl, List.length_append]
    rw [← hbl] at hre hBe ⊢
    refine Seq.call rfl (fun w' hw => by have h := textDecode (RAt.up (RAt.own (enc := byteEnc) (xs := bz)) hw) hBe (by omega) (hL.upd hw); rw [hre] at h; exact h) (F := _) (by exact List.Perm.refl _) ?_
    rintro _ _ ⟨A37, c37, rfl, rfl⟩
    simp only [List.cons_append, List.nil_append]
    refine Seq.p rfl Ev.move ?_
    refine Seq.p rfl Ev.extract ?_
    refine Seq.p rfl Ev.extract ?_
    refine Seq.p rfl Ev.extract ?_
    refine Seq.p rfl Ev.extract ?_
    refine Seq.p rfl Ev.assign ?_
    refine Seq.p rfl Ev.assign ?_
    refine Seq.p rfl Ev.assign ?_
    refine Seq.p rfl Ev.assign ?_
    refine Seq.nil ?_
    refine JC.rs ?_
    refine Seq.p rfl Ev.move ?_
    refine Seq.p rfl Ev.ne ?_
    refine Seq.p rfl Ev.move ?_
    refine Seq.orG (D := [44, 45, 46, 47, 48]) (d := 44) (t := 48) (k := 4) (hn := fun h44 => ?_) (hx := ?_)
    · repeat (first | refine Seq.gn rfl rfl rfl rfl ?_ | refine Seq.gu rfl rfl rfl ?_)
      refine Seq.p rfl Ev.pickT ?_
      exact Seq.nil ⟨rfl, (by repeat (first | with_reducible exact Off.refl | refine Off.upd ?_ rfl | exact Off.mix | refine Off.mix2 ?_ rfl)), Look.here⟩
    apply Exists.intro
    refine ⟨fun h44 => ?_, fun u48 => ?_⟩
    · try simp only [decide_eq_true_eq, decide_eq_false_iff_not, Bool.and_eq_true, Bool.or_eq_true, Bool.not_eq_true', Bool.not_eq_false', Bool.or_eq_false_iff, Bool.and_eq_false_imp] at h44
      refine Seq.gy rfl rfl rfl ?_
      refine Seq.p rfl Ev.move ?_
      refine Seq.gy rfl rfl rfl ?_
      refine Seq.p rfl Ev.move ?_
      refine Seq.gy rfl rfl rfl ?_
      refine Seq.p rfl Ev.neStr ?_
      refine Seq.p rfl Ev.pickF ?_
      exact Seq.nil ⟨rfl, (by repeat (first | with_reducible exact Off.refl | refine Off.upd ?_ rfl | exact Off.mix | refine Off.mix2 ?_ rfl)), Look.here⟩
    refine Seq.p rfl Ev.move ?_
    refine Seq.orG (D := [49, 50, 51, 52, 53, 54]) (d := 49) (t := 54) (k := 5) (hn := fun h49 => ?_) (hx := ?_)
    · repeat (first | refine Seq.gn rfl rfl rfl rfl ?_ | refine Seq.gu rfl rfl rfl ?_)
      refine Seq.p rfl Ev.pickT ?_
      exact Seq.nil ⟨rfl, (by repeat (first | with_reducible exact Off.refl | refine Off.upd ?_ rfl | exact Off.mix | refine Off.mix2 ?_ rfl)), Look.here⟩
    apply Exists.intro
    refine ⟨fun h49 => ?_, fun u54 => ?_⟩
    · try simp only [decide_eq_true_eq, decide_eq_false_iff_not, Bool.and_eq_true, Bool.or_eq_true, Bool.not_eq_true', Bool.not_eq_false', Bool.or_eq_false_iff, Bool.and_eq_false_imp] at h49
      refine Seq.gy rfl rfl rfl ?_
      refine Seq.p rfl Ev.move ?_
      refine Seq.gy rfl rfl rfl ?_
      refine Seq.p rfl Ev.move ?_
      refine Seq.gy rfl rfl rfl ?_
      refine Seq.callP rfl (fun w hw => lawTags (RAt.up (RAt.own (enc := Tg.enc) (xs := xs)) hw) (hr.up hw)) ?_
      refine Seq.gy rfl rfl rfl ?_
      refine Seq.p rfl Ev.not ?_
      refine Seq.p rfl Ev.pickF ?_
      exact Seq.nil ⟨rfl, (by repeat (first | with_reducible exact Off.refl | refine Off.upd ?_ rfl | exact Off.mix | refine Off.mix2 ?_ rfl)), Look.here⟩
    refine Seq.p rfl Ev.move ?_
    refine Seq.orG (D := [55, 56, 57, 58, 59, 60]) (d := 55) (t := 60) (k := 5) (hn := fun h55 => ?_) (hx := ?_)
    · repeat (first | refine Seq.gn rfl rfl rfl rfl ?_ | refine Seq.gu rfl rfl rfl ?_)
      refine Seq.p rfl Ev.pickT ?_
      exact Seq.nil ⟨rfl, (by repeat (first | with_reducible exact Off.refl | refine Off.upd ?_ rfl | exact Off.mix | refine Off.mix2 ?_ rfl)), Look.here⟩
    apply Exists.intro
    refine ⟨fun h55 => ?_, fun u60 => ?_⟩
    · try simp only [decide_eq_true_eq, decide_eq_false_iff_not, Bool.and_eq_true, Bool.or_eq_true, Bool.not_eq_true', Bool.not_eq_false', Bool.or_eq_false_iff, Bool.and_eq_false_imp] at h55
      refine Seq.gy rfl rfl rfl ?_
      refine Seq.p rfl Ev.move ?_
      refine Seq.gy rfl rfl rfl ?_
      refine Seq.p rfl Ev.move ?_
      refine Seq.gy rfl rfl rfl ?_
      refine Seq.p rfl (Ev.lenSl sl.sl_uint8 (hr := RAt.own (enc := byteEnc) (xs := eb))) ?_
      refine Seq.gy rfl rfl rfl ?_
      refine Seq.p rfl Ev.ne ?_
      refine Seq.p rfl Ev.pickF ?_
      exact Seq.nil ⟨rfl, (by repeat (first | with_reducible exact Off.refl | refine Off.upd ?_ rfl | exact Off.mix | refine Off.mix2 ?_ rfl)), Look.here⟩
    refine Seq.nil ?_
    first | refine JC.c (ht := fun c60 => ?_) (hf := fun c60 => ?_) | refine JC.cb (ht := fun c60 => ?_) (hf := fun c60 => ?_)
    · -- then_t60
      exfalso
      simp at c60
    · -- else_t60
      refine JC.skip ?_
      refine JC.rs ?_
      refine Seq.buildSl (cs := []) (hsl := sl.sl_uint8) (hz := z.uint8) (hcs := rfl) (k := ?_); intro b62
      refine Seq.re (fun w h => Upd.boxOwn h (n := 0) (size := 1) At.z rfl (by omega)) ?_
      refine Seq.p rfl Ev.move ?_
      refine Seq.append (hsl := sl.sl_uint8) (he := el.uint8) (hH := At.z) (hsrc := fun w' hw => Src.rsl sl.sl_uint8 (hrb.up hw) (by omega) byteOne) (k := ?_); intro A64 c64
      rw [Nat.zero_add l.length, List.nil_append]
      refine Seq.call rfl (fun w' hw => by have h := textDecode (RAt.up (RAt.own (enc := byteEnc) (xs := l)) hw) hB (by omega) (hL.upd hw); rw [← hR] at h; exact h) (F := _) (by exact List.Perm.refl _) ?_
      rintro _ _ ⟨A65, c65, rfl, rfl⟩
      simp only [List.cons_append, List.nil_append]
      refine Seq.p rfl Ev.move ?_
      refine Seq.p rfl Ev.extract ?_
      refine Seq.p rfl Ev.extract ?_
      refine Seq.p rfl Ev.extract ?_
      refine Seq.p rfl Ev.extract ?_
      refine Seq.p rfl Ev.assign ?_
      refine Seq.p rfl Ev.assign ?_
      refine Seq.p rfl Ev.assign ?_
      refine Seq.p rfl Ev.assign ?_
      refine Seq.nil ?_
      refine JC.seq ?_
      refine JC.rs ?_
      refine Seq.p rfl Ev.move ?_
      refine Seq.p rfl Ev.eq ?_
      refine Seq.nil ?_
      first | refine JC.c (ht := fun c71 => ?_) (hf := fun c71 => ?_) | refine JC.cb (ht := fun c71 => ?_) (hf := fun c71 => ?_)
      · -- then_t71
        have hw0 : (readF l).why = 0 := by rw [← hR]; exact c71
        obtain ⟨g1, g2, g3⟩ := read_inv hB hw0
        have g4 := readF_ok_place hw0
        have g5 := encF_body g1
        rw [← hR] at g1 g2 g3 g4 g5
        have hcut : RSl byteEnc 1 w [] (subSl vb 0 R.size 1) (l.take R.size) := by
          have h3 := hrb.sub (lo := 0) (hi := R.size) (by omega) (by omega)
          rwa [List.drop_zero] at h3
        have hkz : R.kind.size ≤ 281474976710656 := by
          have h7 := (encF_ok g1).1
          unfold kindB at h7
          simp only [Bool.and_eq_true, Bool.or_eq_true, decide_eq_true_eq] at h7
          omega
        obtain ⟨lt, hlt⟩ : ∃ x, x = l.take R.size := ⟨_, rfl⟩
        rw [← hlt] at g1 hcut
        have hltl : lt.length ≤ 70368744177664 := by rw [hlt, List.length_take]; omega
        refine JC.seq ?_
        refine JC.rs ?_
        refine Seq.p rfl Ev.move ?_
        refine Seq.p rfl Ev.lt ?_
        refine Seq.p rfl Ev.move ?_
        refine Seq.orG (D := [74, 75, 76, 77, 78, 79]) (d := 74) (t := 79) (k := 5) (hn := fun h74 => ?_) (hx := ?_)
        · repeat (first | refine Seq.gn rfl rfl rfl rfl ?_ | refine Seq.gu rfl rfl rfl ?_)
          refine Seq.p rfl Ev.pickT ?_
          exact Seq.nil ⟨rfl, (by repeat (first | with_reducible exact Off.refl | refine Off.upd ?_ rfl | exact Off.mix | refine Off.mix2 ?_ rfl)), Look.here⟩
        apply Exists.intro
        refine ⟨fun h74 => ?_, fun u79 => ?_⟩
        · try simp only [decide_eq_true_eq, decide_eq_false_iff_not, Bool.and_eq_true, Bool.or_eq_true, Bool.not_eq_true', Bool.not_eq_false', Bool.or_eq_false_iff, Bool.and_eq_false_imp] at h74
          refine Seq.gy rfl rfl rfl ?_
          refine Seq.p rfl Ev.move ?_
          refine Seq.gy rfl rfl rfl ?_
          refine Seq.p rfl Ev.move ?_
          refine Seq.gy rfl rfl rfl ?_
          refine Seq.p rfl (Ev.lenSl sl.sl_uint8 (hr := hrb.r)) ?_
          refine Seq.gy rfl rfl rfl ?_
          refine Seq.p rfl Ev.gt ?_
          refine Seq.p rfl Ev.pickF ?_
          exact Seq.nil ⟨rfl, (by repeat (first | with_reducible exact Off.refl | refine Off.upd ?_ rfl | exact Off.mix | refine Off.mix2 ?_ rfl)), Look.here⟩
        refine Seq.nil ?_
        first | refine JC.c (ht := fun c79 => ?_) (hf := fun c79 => ?_) | refine JC.cb (ht := fun c79 => ?_) (hf := fun c79 => ?_)
        · -- then_t79
          exfalso
          simp only [Bool.or_eq_true, decide_eq_true_eq] at c79
          omega
        · -- else_t79
          refine JC.skip ?_
          refine JC.rs ?_
          refine Seq.p rfl Ev.move ?_
          refine Seq.p rfl Ev.move ?_
          refine Seq.call rfl (fun w' hw => by have h := textEncode (kind := R.kind) (RAt.up (RAt.own (enc := Tg.enc) (xs := R.tags)) hw) hkz hts g5 (hL.upd hw); rw [g1] at h; exact h) (F := _) (by exact List.Perm.refl _) ?_
          rintro _ _ ⟨A83, c83, rfl, rfl⟩
          simp only [List.cons_append, List.nil_append]
          refine Seq.p rfl Ev.move ?_
          refine Seq.p rfl Ev.extract ?_
          refine Seq.p rfl Ev.extract ?_
          refine Seq.p rfl Ev.assign ?_
          refine Seq.p rfl Ev.assign ?_
          refine Seq.nil ?_
          refine JC.rs ?_
          refine Seq.p rfl Ev.move ?_
          refine Seq.p rfl Ev.ne ?_
          refine Seq.p rfl Ev.move ?_
          refine Seq.orG (D := [88, 89, 90, 91, 92, 93, 94, 95]) (d := 88) (t := 95) (k := 7) (hn := fun h88 => ?_) (hx := ?_)
          · repeat (first | refine Seq.gn rfl rfl rfl rfl ?_ | refine Seq.gu rfl rfl rfl ?_)
            refine Seq.p rfl Ev.pickT ?_
            exact Seq.nil ⟨rfl, (by repeat (first | with_reducible exact Off.refl | refine Off.upd ?_ rfl | exact Off.mix | refine Off.mix2 ?_ rfl)), Look.here⟩
          apply Exists.intro
          refine ⟨fun h88 => ?_, fun u95 => ?_⟩
          · try simp only [decide_eq_true_eq, decide_eq_false_iff_not, Bool.and_eq_true, Bool.or_eq_true, Bool.not_eq_true', Bool.not_eq_false', Bool.or_eq_false_iff, Bool.and_eq_false_imp] at h88
            refine Seq.gy rfl rfl rfl ?_
            refine Seq.p rfl Ev.move ?_
            refine Seq.gy rfl rfl rfl ?_
            refine Seq.p rfl Ev.move ?_
            refine Seq.gy rfl rfl rfl ?_
            refine Seq.p rfl Ev.move ?_
            refine Seq.gy rfl rfl rfl ?_
            rw [g4]
            refine Seq.p rfl (Ev.cut sl.sl_uint8 (hr := hrb.r) (l := 0) (h := R.size) (hlo := rfl) (hhi := ⟨_, (by repeat (first | exact Look.here | apply Look.there (hne := rfl) | exact Look.const | apply Look.mix rfl | exact Look.arg0 | apply Look.args | exact Look.func))⟩)) ?_
            refine Seq.gy rfl rfl rfl ?_
            refine Seq.callP rfl (fun w hw => lawSame (RAt.up (RAt.own (enc := byteEnc) (xs := lt)) hw) (hcut.up hw)) ?_
            refine Seq.gy rfl rfl rfl ?_
            refine Seq.p rfl Ev.not ?_
            refine Seq.p rfl Ev.pickF ?_
            exact Seq.nil ⟨rfl, (by repeat (first | with_reducible exact Off.refl | refine Off.upd ?_ rfl | exact Off.mix | refine Off.mix2 ?_ rfl)), Look.here⟩
          refine Seq.nil ?_
          first | refine JC.c (ht := fun c95 => ?_) (hf := fun c95 => ?_) | refine JC.cb (ht := fun c95 => ?_) (hf := fun c95 => ?_)
          · -- then_t95
            exfalso
            simp at c95
          · -- else_t95
            refine JC.skip ?_
            refine JC.rs ?_
            refine Seq.call rfl (fun w' hw => by have h := textEncode (v := .slice none 0 0) (kind := ⟨#[48]⟩) (xs := []) (RSl.empty Tg.enc 2 w' []) (by decide) (fun t ht => by cases ht) one_body (hL.upd hw); rw [hone] at h; exact h) (F := _) (by exact List.Perm.refl _) ?_
            rintro _ _ ⟨A97, c97, rfl, rfl⟩
            simp only [List.cons_append, List.nil_append]
            refine Seq.p rfl Ev.move ?_
            refine Seq.p rfl Ev.extract ?_
            refine Seq.p rfl Ev.extract ?_
            refine Seq.p rfl Ev.assign ?_
            refine Seq.p rfl Ev.assign ?_
            refine Seq.nil ?_
            refine JC.rs ?_
            refine Seq.p rfl Ev.move ?_
            refine Seq.p rfl Ev.eq ?_
            refine Seq.p rfl Ev.move ?_
            refine Seq.andG (D := [102, 103, 104, 105, 106]) (d := 102) (t := 106) (k := 4) (hn := fun h102 => ?_) (hx := ?_)
            · repeat (first | refine Seq.gn rfl rfl rfl rfl ?_ | refine Seq.gu rfl rfl rfl ?_)
              refine Seq.p rfl Ev.pickF ?_
              exact Seq.nil ⟨rfl, (by repeat (first | with_reducible exact Off.refl | refine Off.upd ?_ rfl | exact Off.mix | refine Off.mix2 ?_ rfl)), Look.here⟩
            apply Exists.intro
            refine ⟨fun h102 => ?_, fun u106 => ?_⟩
            · try simp only [decide_eq_true_eq, decide_eq_false_iff_not, Bool.and_eq_true, Bool.or_eq_true, Bool.not_eq_true', Bool.not_eq_false', Bool.or_eq_false_iff, Bool.and_eq_false_imp] at h102
              refine Seq.gy rfl rfl rfl ?_
              refine Seq.p rfl Ev.move ?_
              refine Seq.gy rfl rfl rfl ?_
              refine Seq.p rfl (Ev.lenSl sl.sl_uint8 (hr := RAt.own (enc := byteEnc) (xs := one) (hs := by omega))) ?_
              refine Seq.gy rfl rfl rfl ?_
              refine Seq.p rfl Ev.gt ?_
              refine Seq.p rfl Ev.pickT ?_
              exact Seq.nil ⟨rfl, (by repeat (first | with_reducible exact Off.refl | refine Off.upd ?_ rfl | exact Off.mix | refine Off.mix2 ?_ rfl)), Look.here⟩
            refine Seq.p rfl Ev.assign ?_
            refine Seq.nil ?_
            refine JC.ret ?_
            -- return 0
            show retQ _ _ _ _ _ _ _ _
            refine ret1 (hp := Part.nil _) (hpost := ?_)
            have hop2 : (0 : Int) < (one.length : Int) := by omega
            simp [hop2, hop]
      · -- else_t71
        refine JC.skip ?_
        refine JC.rs ?_
        refine Seq.call rfl (fun w' hw => by have h := textEncode (v := .slice none 0 0) (kind := ⟨#[48]⟩) (xs := []) (RSl.empty Tg.enc 2 w' []) (by decide) (fun t ht => by cases ht) one_body (hL.upd hw); rw [hone] at h; exact h) (F := _) (by exact List.Perm.refl _) ?_
        rintro _ _ ⟨A97, c97, rfl, rfl⟩
        simp only [List.cons_append, List.nil_append]
        refine Seq.p rfl Ev.move ?_
        refine Seq.p rfl Ev.extract ?_
        refine Seq.p rfl Ev.extract ?_
        refine Seq.p rfl Ev.assign ?_
        refine Seq.p rfl Ev.assign ?_
        refine Seq.nil ?_
        refine JC.rs ?_
        refine Seq.p rfl Ev.move ?_
        refine Seq.p rfl Ev.eq ?_
        refine Seq.p rfl Ev.move ?_
        refine Seq.andG (D := [102, 103, 104, 105, 106]) (d := 102) (t := 106) (k := 4) (hn := fun h102 => ?_) (hx := ?_)
        · repeat (first | refine Seq.gn rfl rfl rfl rfl ?_ | refine Seq.gu rfl rfl rfl ?_)
          refine Seq.p rfl Ev.pickF ?_
          exact Seq.nil ⟨rfl, (by repeat (first | with_reducible exact Off.refl | refine Off.upd ?_ rfl | exact Off.mix | refine Off.mix2 ?_ rfl)), Look.here⟩
        apply Exists.intro
        refine ⟨fun h102 => ?_, fun u106 => ?_⟩
        · try simp only [decide_eq_true_eq, decide_eq_false_iff_not, Bool.and_eq_true, Bool.or_eq_true, Bool.not_eq_true', Bool.not_eq_false', Bool.or_eq_false_iff, Bool.and_eq_false_imp] at h102
          refine Seq.gy rfl rfl rfl ?_
          refine Seq.p rfl Ev.move ?_
          refine Seq.gy rfl rfl rfl ?_
          refine Seq.p rfl (Ev.lenSl sl.sl_uint8 (hr := RAt.own (enc := byteEnc) (xs := one) (hs := by omega))) ?_
          refine Seq.gy rfl rfl rfl ?_
          refine Seq.p rfl Ev.gt ?_
          refine Seq.p rfl Ev.pickT ?_
          exact Seq.nil ⟨rfl, (by repeat (first | with_reducible exact Off.refl | refine Off.upd ?_ rfl | exact Off.mix | refine Off.mix2 ?_ rfl)), Look.here⟩
        refine Seq.p rfl Ev.assign ?_
        refine Seq.nil ?_
        refine JC.ret ?_
        -- return 1
        show retQ _ _ _ _ _ _ _ _
        refine ret1 (hp := Part.nil _) (hpost := ?_)
        have hop2 : (0 : Int) < (one.length : Int) := by omega
        simp [hop2, hop]
  · -- else_t30
    refine JC.skip ?_
    refine JC.rs ?_
    refine Seq.buildSl (cs := []) (hsl := sl.sl_uint8) (hz := z.uint8) (hcs := rfl) (k := ?_); intro b62
    refine Seq.re (fun w h => Upd.boxOwn h (n := 0) (size := 1) At.z rfl (by omega)) ?_
    refine Seq.p rfl Ev.move ?_
    refine Seq.append (hsl := sl.sl_uint8) (he := el.uint8) (hH := At.z) (hsrc := fun w' hw => Src.rsl sl.sl_uint8 (hrb.up hw) (by omega) byteOne) (k := ?_); intro A64 c64
    rw [Nat.zero_add l.length, List.nil_append]
    refine Seq.call rfl (fun w' hw => by have h := textDecode (RAt.up (RAt.own (enc := byteEnc) (xs := l)) hw) hB (by omega) (hL.upd hw); rw [← hR] at h; exact h) (F := _) (by exact List.Perm.refl _) ?_
    rintro _ _ ⟨A65, c65, rfl, rfl⟩
    simp only [List.cons_append, List.nil_append]
    refine Seq.p rfl Ev.move ?_
    refine Seq.p rfl Ev.extract ?_
    refine Seq.p rfl Ev.extract ?_
    refine Seq.p rfl Ev.extract ?_
    refine Seq.p rfl Ev.extract ?_
    refine Seq.p rfl Ev.assign ?_
    refine Seq.p rfl Ev.assign ?_
    refine Seq.p rfl Ev.assign ?_
    refine Seq.p rfl Ev.assign ?_
    refine Seq.nil ?_
    refine JC.seq ?_
    refine JC.rs ?_
    refine Seq.p rfl Ev.move ?_
    refine Seq.p rfl Ev.eq ?_
    refine Seq.nil ?_
    first | refine JC.c (ht := fun c71 => ?_) (hf := fun c71 => ?_) | refine JC.cb (ht := fun c71 => ?_) (hf := fun c71 => ?_)
    · -- then_t71
      have hw0 : (readF l).why = 0 := by rw [← hR]; exact c71
      obtain ⟨g1, g2, g3⟩ := read_inv hB hw0
      have g4 := readF_ok_place hw0
      have g5 := encF_body g1
      rw [← hR] at g1 g2 g3 g4 g5
      have hcut : RSl byteEnc 1 w [] (subSl vb 0 R.size 1) (l.take R.size) := by
        have h3 := hrb.sub (lo := 0) (hi := R.size) (by omega) (by omega)
        rwa [List.drop_zero] at h3
      have hkz : R.kind.size ≤ 281474976710656 := by
        have h7 := (encF_ok g1).1
        unfold kindB at h7
        simp only [Bool.and_eq_true, Bool.or_eq_true, decide_eq_true_eq] at h7
        omega
      obtain ⟨lt, hlt⟩ : ∃ x, x = l.take R.size := ⟨_, rfl⟩
      rw [← hlt] at g1 hcut
      have hltl : lt.length ≤ 70368744177664 := by rw [hlt, List.length_take]; omega
      refine JC.seq ?_
      refine JC.rs ?_
      refine Seq.p rfl Ev.move ?_
      refine Seq.p rfl Ev.lt ?_
      refine Seq.p rfl Ev.move ?_
      refine Seq.orG (D := [74, 75, 76, 77, 78, 79]) (d := 74) (t := 79) (k := 5) (hn := fun h74 => ?_) (hx := ?_)
      · repeat (first | refine Seq.gn rfl rfl rfl rfl ?_ | refine Seq.gu rfl rfl rfl ?_)
        refine Seq.p rfl Ev.pickT ?_
        exact Seq.nil ⟨rfl, (by repeat (first | with_reducible exact Off.refl | refine Off.upd ?_ rfl | exact Off.mix | refine Off.mix2 ?_ rfl)), Look.here⟩
      apply Exists.intro
      refine ⟨fun h74 => ?_, fun u79 => ?_⟩
      · try simp only [decide_eq_true_eq, decide_eq_false_iff_not, Bool.and_eq_true, Bool.or_eq_true, Bool.not_eq_true', Bool.not_eq_false', Bool.or_eq_false_iff, Bool.and_eq_false_imp] at h74
        refine Seq.gy rfl rfl rfl ?_
        refine Seq.p rfl Ev.move ?_
        refine Seq.gy rfl rfl rfl ?_
        refine Seq.p rfl Ev.move ?_
        refine Seq.gy rfl rfl rfl ?_
        refine Seq.p rfl (Ev.lenSl sl.sl_uint8 (hr := hrb.r)) ?_
        refine Seq.gy rfl rfl rfl ?_
        refine Seq.p rfl Ev.gt ?_
        refine Seq.p rfl Ev.pickF ?_
        exact Seq.nil ⟨rfl, (by repeat (first | with_reducible exact Off.refl | refine Off.upd ?_ rfl | exact Off.mix | refine Off.mix2 ?_ rfl)), Look.here⟩
      refine Seq.nil ?_
      first | refine JC.c (ht := fun c79 => ?_) (hf := fun c79 => ?_) | refine JC.cb (ht := fun c79 => ?_) (hf := fun c79 => ?_)
      · -- then_t79
        exfalso
        simp only [Bool.or_eq_true, decide_eq_true_eq] at c79
        omega
      · -- else_t79
        refine JC.skip ?_
        refine JC.rs ?_
        refine Seq.p rfl Ev.move ?_
        refine Seq.p rfl Ev.move ?_
        refine Seq.call rfl (fun w' hw => by have h := textEncode (kind := R.kind) (RAt.up (RAt.own (enc := Tg.enc) (xs := R.tags)) hw) hkz hts g5 (hL.upd hw); rw [g1] at h; exact h) (F := _) (by exact List.Perm.refl _) ?_
        rintro _ _ ⟨A83, c83, rfl, rfl⟩
        simp only [List.cons_append, List.nil_append]
        refine Seq.p rfl Ev.move ?_
        refine Seq.p rfl Ev.extract ?_
        refine Seq.p rfl Ev.extract ?_
        refine Seq.p rfl Ev.assign ?_
        refine Seq.p rfl Ev.assign ?_
        refine Seq.nil ?_
        refine JC.rs ?_
        refine Seq.p rfl Ev.move ?_
        refine Seq.p rfl Ev.ne ?_
        refine Seq.p rfl Ev.move ?_
        refine Seq.orG (D := [88, 89, 90, 91, 92, 93, 94, 95]) (d := 88) (t := 95) (k := 7) (hn := fun h88 => ?_) (hx := ?_)
        · repeat (first | refine Seq.gn rfl rfl rfl rfl ?_ | refine Seq.gu rfl rfl rfl ?_)
          refine Seq.p rfl Ev.pickT ?_
          exact Seq.nil ⟨rfl, (by repeat (first | with_reducible exact Off.refl | refine Off.upd ?_ rfl | exact Off.mix | refine Off.mix2 ?_ rfl)), Look.here⟩
        apply Exists.intro
        refine ⟨fun h88 => ?_, fun u95 => ?_⟩
        · try simp only [decide_eq_true_eq, decide_eq_false_iff_not, Bool.and_eq_true, Bool.or_eq_true, Bool.not_eq_true', Bool.not_eq_false', Bool.or_eq_false_iff, Bool.and_eq_false_imp] at h88
          refine Seq.gy rfl rfl rfl ?_
          refine Seq.p rfl Ev.move ?_
          refine Seq.gy rfl rfl rfl ?_
          refine Seq.p rfl Ev.move ?_
          refine Seq.gy rfl rfl rfl ?_
          refine Seq.p rfl Ev.move ?_
          refine Seq.gy rfl rfl rfl ?_
          rw [g4]
          refine Seq.p rfl (Ev.cut sl.sl_uint8 (hr := hrb.r) (l := 0) (h := R.size) (hlo := rfl) (hhi := ⟨_, (by repeat (first | exact Look.here | apply Look.there (hne := rfl) | exact Look.const | apply Look.mix rfl | exact Look.arg0 | apply Look.args | exact Look.func))⟩)) ?_
          refine Seq.gy rfl rfl rfl ?_
          refine Seq.callP rfl (fun w hw => lawSame (RAt.up (RAt.own (enc := byteEnc) (xs := lt)) hw) (hcut.up hw)) ?_
          refine Seq.gy rfl rfl rfl ?_
          refine Seq.p rfl Ev.not ?_
          refine Seq.p rfl Ev.pickF ?_
          exact Seq.nil ⟨rfl, (by repeat (first | with_reducible exact Off.refl | refine Off.upd ?_ rfl | exact Off.mix | refine Off.mix2 ?_ rfl)), Look.here⟩
        refine Seq.nil ?_
        first | refine JC.c (ht := fun c95 => ?_) (hf := fun c95 => ?_) | refine JC.cb (ht := fun c95 => ?_) (hf := fun c95 => ?_)
        · -- then_t95
          exfalso
          simp at c95
        · -- else_t95
          refine JC.skip ?_
          refine JC.rs ?_
          refine Seq.call rfl (fun w' hw => by have h := textEncode (v := .slice none 0 0) (kind := ⟨#[48]⟩) (xs := []) (RSl.empty Tg.enc 2 w' []) (by decide) (fun t ht => by cases ht) one_body (hL.upd hw); rw [hone] at h; exact h) (F := _) (by exact List.Perm.refl _) ?_
          rintro _ _ ⟨A97, c97, rfl, rfl⟩
          simp only [List.cons_append, List.nil_append]
          refine Seq.p rfl Ev.move ?_
          refine Seq.p rfl Ev.extract ?_
          refine Seq.p rfl Ev.extract ?_
          refine Seq.p rfl Ev.assign ?_
          refine Seq.p rfl Ev.assign ?_
          refine Seq.nil ?_
          refine JC.rs ?_
          refine Seq.p rfl Ev.move ?_
          refine Seq.p rfl Ev.eq ?_
          refine Seq.p rfl Ev.move ?_
          refine Seq.andG (D := [102, 103, 104, 105, 106]) (d := 102) (t := 106) (k := 4) (hn := fun h102 => ?_) (hx := ?_)
          · repeat (first | refine Seq.gn rfl rfl rfl rfl ?_ | refine Seq.gu rfl rfl rfl ?_)
            refine Seq.p rfl Ev.pickF ?_
            exact Seq.nil ⟨rfl, (by repeat (first | with_reducible exact Off.refl | refine Off.upd ?_ rfl | exact Off.mix | refine Off.mix2 ?_ rfl)), Look.here⟩
          apply Exists.intro
          refine ⟨fun h102 => ?_, fun u106 => ?_⟩
          · try simp only [decide_eq_true_eq, decide_eq_false_iff_not, Bool.and_eq_true, Bool.or_eq_true, Bool.not_eq_true', Bool.not_eq_false', Bool.or_eq_false_iff, Bool.and_eq_false_imp] at h102
            refine Seq.gy rfl rfl rfl ?_
            refine Seq.p rfl Ev.move ?_
            refine Seq.gy rfl rfl rfl ?_
            refine Seq.p rfl (Ev.lenSl sl.sl_uint8 (hr := RAt.own (enc := byteEnc) (xs := one) (hs := by omega))) ?_
            refine Seq.gy rfl rfl rfl ?_
            refine Seq.p rfl Ev.gt ?_
            refine Seq.p rfl Ev.pickT ?_
            exact Seq.nil ⟨rfl, (by repeat (first | with_reducible exact Off.refl | refine Off.upd ?_ rfl | exact Off.mix | refine Off.mix2 ?_ rfl)), Look.here⟩
          refine Seq.p rfl Ev.assign ?_
          refine Seq.nil ?_
          refine JC.ret ?_
          -- return 2
          show retQ _ _ _ _ _ _ _ _
          refine ret1 (hp := Part.nil _) (hpost := ?_)
          have hop2 : (0 : Int) < (one.length : Int) := by omega
          simp [hop2, hop]
    · -- else_t71
      refine JC.skip ?_
      refine JC.rs ?_
      refine Seq.call rfl (fun w' hw => by have h := textEncode (v := .slice none 0 0) (kind := ⟨#[48]⟩) (xs := []) (RSl.empty Tg.enc 2 w' []) (by decide) (fun t ht => by cases ht) one_body (hL.upd hw); rw [hone] at h; exact h) (F := _) (by exact List.Perm.refl _) ?_
      rintro _ _ ⟨A97, c97, rfl, rfl⟩
      simp only [List.cons_append, List.nil_append]
      refine Seq.p rfl Ev.move ?_
      refine Seq.p rfl Ev.extract ?_
      refine Seq.p rfl Ev.extract ?_
      refine Seq.p rfl Ev.assign ?_
      refine Seq.p rfl Ev.assign ?_
      refine Seq.nil ?_
      refine JC.rs ?_
      refine Seq.p rfl Ev.move ?_
      refine Seq.p rfl Ev.eq ?_
      refine Seq.p rfl Ev.move ?_
      refine Seq.andG (D := [102, 103, 104, 105, 106]) (d := 102) (t := 106) (k := 4) (hn := fun h102 => ?_) (hx := ?_)
      · repeat (first | refine Seq.gn rfl rfl rfl rfl ?_ | refine Seq.gu rfl rfl rfl ?_)
        refine Seq.p rfl Ev.pickF ?_
        exact Seq.nil ⟨rfl, (by repeat (first | with_reducible exact Off.refl | refine Off.upd ?_ rfl | exact Off.mix | refine Off.mix2 ?_ rfl)), Look.here⟩
      apply Exists.intro
      refine ⟨fun h102 => ?_, fun u106 => ?_⟩
      · try simp only [decide_eq_true_eq, decide_eq_false_iff_not, Bool.and_eq_true, Bool.or_eq_true, Bool.not_eq_true', Bool.not_eq_false', Bool.or_eq_false_iff, Bool.and_eq_false_imp] at h102
        refine Seq.gy rfl rfl rfl ?_
        refine Seq.p rfl Ev.move ?_
        refine Seq.gy rfl rfl rfl ?_
        refine Seq.p rfl (Ev.lenSl sl.sl_uint8 (hr := RAt.own (enc := byteEnc) (xs := one) (hs := by omega))) ?_
        refine Seq.gy rfl rfl rfl ?_
        refine Seq.p rfl Ev.gt ?_
        refine Seq.p rfl Ev.pickT ?_
        exact Seq.nil ⟨rfl, (by repeat (first | with_reducible exact Off.refl | refine Off.upd ?_ rfl | exact Off.mix | refine Off.mix2 ?_ rfl)), Look.here⟩
      refine Seq.p rfl Ev.assign ?_
      refine Seq.nil ?_
      refine JC.ret ?_
      -- return 3
      show retQ _ _ _ _ _ _ _ _
      refine ret1 (hp := Part.nil _) (hpost := ?_)
      have hop2 : (0 : Int) < (one.length : Int) := by omega
      simp [hop2, hop]
end Go.Rx
/- The law bourselaw03.TextSpoilt gives true. -/
namespace Go.Rx
open Go Go.RowKit Go.Lib Go.Proofs.YtcggppjpnepoiaaDoor
set_option linter.unusedVariables false
set_option linter.unusedSimpArgs false
theorem sum_mod : ∀ (l : List Int) (s : Int), (l.foldl (fun s x => (s + x) % 256) s) % 256 = (s + l.sum) % 256
  | [], s => by simp
  | x :: r, s => by
    rw [List.foldl_cons, sum_mod r, List.sum_cons]
    omega
theorem sumB_eq (l : List Int) : sumB l = l.sum % 256 := by
  have h1 := sumB_range l
  have h2 := sum_mod l 0
  rw [Int.zero_add] at h2
  unfold sumB at h1 ⊢
  omega
theorem sum_set : ∀ {l : List Int} {q : Nat} {y : Int}, q < l.length → (l.set q y).sum = l.sum - l[q]! + y
  | [], q, y, h => by simp at h
  | x :: r, 0, y, h => by simp; omega
  | x :: r, q + 1, y, h => by
    have ih := sum_set (l := r) (q := q) (y := y) (by simpa using h)
    have e : (x :: r)[q + 1]! = r[q]! := by simp
    rw [List.set_cons_succ, List.sum_cons, List.sum_cons, ih, e]
    omega
theorem three_inj {a b : Int} (ha : 0 ≤ a ∧ a ≤ 255) (hb : 0 ≤ b ∧ b ≤ 255) (h : threeL a = threeL b) : a = b := by
  unfold threeL at h
  simp only [List.cons.injEq, and_true] at h
  omega
theorem last_inj {a b : List Int} (h : lastL a = lastL b) : sumB a = sumB b := by
  have ha := sumB_range a
  have hb := sumB_range b
  unfold lastL at h
  refine three_inj ha hb ?_
  have h2 := congrArg (fun l => (l.drop 3).take 3) h
  simpa [threeL] using h2
/-- A line of which one byte is another one is not read as a line of the same length. -/
theorem spoilt {kind : ByteArray} {xs : List Tg} {x : List Int} {q : Nat} {y : Int} (h : encF kind xs = (0, x)) (hq : q < x.length) (hy : 0 ≤ y ∧ y ≤ 255) (hne : y ≠ x[q]!) (h0 : (readF (x.set q y)).why = 0) : (readF (x.set q y)).size ≠ x.length := by
  intro hs
  obtain ⟨_, _, _, _, hx⟩ := encF_ok h
  have hB : isBytes x := by rw [hx]; exact line_bytes kind xs
  obtain ⟨front, hf⟩ : ∃ f, f = frontL kind xs := ⟨_, rfl⟩
  have hxf : x = front ++ lastL front := by rw [hx, hf]; rfl
  have hxl : x.length = front.length + 7 := by rw [hxf, List.length_append]; rfl
  obtain ⟨f, k, kd, ts, _, _, _, _, h4, _, hr⟩ := readF_ok_parts h0
  rw [hr] at hs
  replace hs : f + k + 7 = x.length := hs
  have hfk : f + k = front.length := by omega
  rw [hfk] at h4
  have hxq := isBytes_get hB hq
  rcases Nat.lt_or_ge q front.length with hlt | hge
  · have e1 : x.set q y = front.set q y ++ lastL front := by rw [hxf, List.set_append_left _ _ hlt]
    have e2 : (x.set q y).take front.length = front.set q y := by rw [e1]; exact List.take_left' (by simp)
    have e3 : ((x.set q y).drop front.length).take 7 = lastL front := by
      rw [e1]
      have : (front.set q y ++ lastL front).drop front.length = lastL front := List.drop_left' (by simp)
      rw [this]
      exact List.take_of_length_le (Nat.le_refl _)
    rw [e2, e3] at h4
    have h5 := last_inj h4
    rw [sumB_eq, sumB_eq, sum_set hlt] at h5
    have e4 : front[q]! = x[q]! := by rw [hxf]; exact (get_app_left hlt).symm
    rw [e4] at h5
    omega
  · have e1 : x.set q y = front ++ (lastL front).set (q - front.length) y := by rw [hxf, List.set_append_right _ _ hge]
    have e2 : (x.set q y).take front.length = front := by rw [e1, List.take_left]
    have e3 : ((x.set q y).drop front.length).take 7 = (lastL front).set (q - front.length) y := by
      rw [e1, List.drop_left]
      exact List.take_of_length_le (by rw [List.length_set]; exact Nat.le_refl _)
    rw [e2, e3] at h4
    have hj : q - front.length < (lastL front).length := by show q - front.length < 7; omega
    have h5 : ((lastL front).set (q - front.length) y)[q - front.length]! = (lastL front)[q - front.length]! := congrArg (fun l => l[q - front.length]!) h4
    rw [getElem!_pos _ _ (by rw [List.length_set]; exact hj), List.getElem_set_self] at h5
    have h6 := get_app_right (a := front) (b := lastL front) (i := q - front.length) hj
    rw [← hxf, show front.length + (q - front.length) = q by omega] at h6
    exact hne (by rw [h5, h6])
theorem xor_ne {a b : Int} (ha : 0 ≤ a ∧ a ≤ 255) (hb : b % 256 ≠ 0) : IntKind.u8.wrap ((BitVec.ofInt IntKind.u8.bits a ^^^ BitVec.ofInt IntKind.u8.bits (b % 256)).toNat) ≠ a ∧ 0 ≤ IntKind.u8.wrap ((BitVec.ofInt IntKind.u8.bits a ^^^ BitVec.ofInt IntKind.u8.bits (b % 256)).toNat) ∧ IntKind.u8.wrap ((BitVec.ofInt IntKind.u8.bits a ^^^ BitVec.ofInt IntKind.u8.bits (b % 256)).toNat) ≤ 255 := by
  have hw : ∀ v : BitVec 8, IntKind.u8.wrap (v.toNat : Int) = (v.toNat : Int) := fun v => wrap_u8 _ (by have := v.isLt; omega)
  have e : IntKind.u8.bits = 8 := rfl
  generalize hc : b % 256 = c
  have hcr : 0 ≤ c ∧ c ≤ 255 := by omega
  show IntKind.u8.wrap ((BitVec.ofInt 8 a ^^^ BitVec.ofInt 8 c).toNat : Int) ≠ a ∧ 0 ≤ IntKind.u8.wrap ((BitVec.ofInt 8 a ^^^ BitVec.ofInt 8 c).toNat : Int) ∧ IntKind.u8.wrap ((BitVec.ofInt 8 a ^^^ BitVec.ofInt 8 c).toNat : Int) ≤ 255
  rw [hw]
  have hlt := (BitVec.ofInt 8 a ^^^ BitVec.ofInt 8 c).isLt
  refine ⟨fun h => ?_, by omega, by omega⟩
  have hA : ((BitVec.ofInt 8 a).toNat : Int) = a := by rw [BitVec.toNat_ofInt]; omega
  have hC : ((BitVec.ofInt 8 c).toNat : Int) = c := by rw [BitVec.toNat_ofInt]; omega
  have h2 : (BitVec.ofInt 8 a ^^^ BitVec.ofInt 8 c).toNat = (BitVec.ofInt 8 a).toNat := by omega
  have h3 : BitVec.ofInt 8 a ^^^ BitVec.ofInt 8 c = BitVec.ofInt 8 a := BitVec.eq_of_toNat_eq h2
  have h4 : BitVec.ofInt 8 a ^^^ (BitVec.ofInt 8 a ^^^ BitVec.ofInt 8 c) = BitVec.ofInt 8 a ^^^ BitVec.ofInt 8 a := congrArg _ h3
  rw [← BitVec.xor_assoc, BitVec.xor_self, BitVec.zero_xor] at h4
  rw [h4] at hC
  simp at hC
  omega
set_option maxHeartbeats 2000000 in
set_option maxRecDepth 100000 in
theorem lawSpoilt {w : World} {v : Value} {kind : ByteArray} {xs : List Tg} {a0 a1 : Int} (hr : RSl Tg.enc 2 w [] v xs) (hk : kind.size ≤ 70368744177664) (hsz : ∀ t ∈ xs, t.value.size ≤ 70368744177664) (hx : xs.length ≤ 1099511627776)
    (hb : (bodyL kind xs).length ≤ 1099511627776) (hL : Laid w) :
    Spec Go.Proofs.Tryd.prog 7 #[.string kind, v, .agg #[.int .i64 a0, .int .i64 a1]] w [] (fun u _ => u = .bool true) := by
  obtain ⟨ec, eb, hef⟩ : ∃ a b, encF kind xs = (a, b) := ⟨_, _, rfl⟩
  have heb := encF_len kind xs
  rw [hef] at heb
  replace heb : eb.length ≤ 2048 := heb
  obtain ⟨one, hone, hop⟩ := one_ok
  have hol := encF_len ⟨#[48]⟩ []
  rw [hone] at hol
  replace hol : one.length ≤ 2048 := hol
  refine Spec.enter (fn := Go.Proofs.Tryd.f7) (n := 86) [.string kind, v, .agg #[.int .i64 a0, .int .i64 a1]] Go.Proofs.Tryd.func7 (by kernel_rfl) rfl Go.Proofs.Tryd.ntmps7 Go.Proofs.Tryd.results7 rfl (Own.nil _) ?_
  refine JC.rs ?_
  refine Seq.box (cs := [_, _]) (k := ?_); intro b5
  refine Seq.p rfl Ev.assign ?_
  refine Seq.nil ?_
  refine JC.rs ?_
  refine Seq.p rfl Ev.move ?_
  refine Seq.buildSl (cs := []) (hsl := sl.sl_api_Tag) (hz := z.api_Tag) (hcs := rfl) (k := ?_); intro b3
  refine Seq.re (fun w h => Upd.boxOwn h (n := 0) (size := 2) At.z rfl (by omega)) ?_
  refine Seq.p rfl Ev.move ?_
  refine Seq.append (hsl := sl.sl_api_Tag) (he := el.api_Tag) (hsrc := fun w' hw => Src.rsl sl.sl_api_Tag (hr.up hw) (by omega) tgOne) (k := ?_); intro A6 c6
  rw [Nat.zero_add xs.length, List.nil_append]
  refine Seq.call rfl (fun w' hw => by have h := textEncode (kind := kind) (RAt.up (RAt.own (enc := Tg.enc) (xs := xs)) hw) (by omega) hsz hb (hL.upd hw); rw [hef] at h; exact h) (F := _) (by exact List.Perm.refl _) ?_
  rintro _ _ ⟨A26, c26, rfl, rfl⟩
  simp only [List.cons_append, List.nil_append]
  refine Seq.p rfl Ev.move ?_
  refine Seq.p rfl Ev.extract ?_
  refine Seq.p rfl Ev.extract ?_
  refine Seq.p rfl Ev.assign ?_
  refine Seq.p rfl Ev.assign ?_
  refine Seq.nil ?_
  refine JC.rs ?_
  refine Seq.call rfl (fun w' hw => by have h := textEncode (v := .slice none 0 0) (kind := ⟨#[48]⟩) (xs := []) (RSl.empty Tg.enc 2 w' []) (by decide) (fun t ht => by cases ht) one_body (hL.upd hw); rw [hone] at h; exact h) (F := _) (by exact List.Perm.refl _) ?_
  rintro _ _ ⟨A97, c97, rfl, rfl⟩
  simp only [List.cons_append, List.nil_append]
  refine Seq.p rfl Ev.move ?_
  refine Seq.p rfl Ev.extract ?_
  refine Seq.p rfl Ev.extract ?_
  refine Seq.p rfl Ev.assign ?_
  refine Seq.p rfl Ev.assign ?_
  refine Seq.nil ?_
  refine JC.seq ?_
  refine JC.rs ?_
  refine Seq.p rfl Ev.move ?_
  refine Seq.p rfl Ev.ne ?_
  refine Seq.p rfl Ev.move ?_
  refine Seq.orG (D := [30, 31, 32, 33, 34]) (d := 30) (t := 34) (k := 4) (hn := fun h30 => ?_) (hx := ?_)
  · repeat (first | refine Seq.gn rfl rfl rfl rfl ?_ | refine Seq.gu rfl rfl rfl ?_)
    refine Seq.p rfl Ev.pickT ?_
    exact Seq.nil ⟨rfl, (by repeat (first | with_reducible exact Off.refl | refine Off.upd ?_ rfl | exact Off.mix | refine Off.mix2 ?_ rfl)), Look.here⟩
  apply Exists.intro
  refine ⟨fun h30 => ?_, fun u34 => ?_⟩
  · try simp only [decide_eq_true_eq, decide_eq_false_iff_not, Bool.and_eq_true, Bool.or_eq_true, Bool.not_eq_true', Bool.not_eq_false', Bool.or_eq_false_iff, Bool.and_eq_false_imp] at h30
    refine Seq.gy rfl rfl rfl ?_
    refine Seq.p rfl Ev.move ?_
    refine Seq.gy rfl rfl rfl ?_
    refine Seq.p rfl (Ev.lenSl sl.sl_uint8 (hr := RAt.own (enc := byteEnc) (xs := one) (hs := by omega))) ?_
    refine Seq.gy rfl rfl rfl ?_
    refine Seq.p rfl Ev.eq ?_
    refine Seq.p rfl Ev.pickF ?_
    exact Seq.nil ⟨rfl, (by repeat (first | with_reducible exact Off.refl | refine Off.upd ?_ rfl | exact Off.mix | refine Off.mix2 ?_ rfl)), Look.here⟩
  refine Seq.nil ?_
  first | refine JC.c (ht := fun c34 => ?_) (hf := fun c34 => ?_) | refine JC.cb (ht := fun c34 => ?_) (hf := fun c34 => ?_)
  · -- then_t34
    exfalso
    first | omega | (simp at c34; omega) | (simp at c34; exact absurd c34 (by intro h; rw [h] at hop; cases hop))
  · -- else_t34
    refine JC.skip ?_
    refine JC.seq ?_
    refine JC.rs ?_
    refine Seq.p rfl Ev.move ?_
    refine Seq.p rfl Ev.ne ?_
    refine Seq.p rfl Ev.move ?_
    refine Seq.orG (D := [37, 38, 39, 40, 41]) (d := 37) (t := 41) (k := 4) (hn := fun h37 => ?_) (hx := ?_)
    · repeat (first | refine Seq.gn rfl rfl rfl rfl ?_ | refine Seq.gu rfl rfl rfl ?_)
      refine Seq.p rfl Ev.pickT ?_
      exact Seq.nil ⟨rfl, (by repeat (first | with_reducible exact Off.refl | refine Off.upd ?_ rfl | exact Off.mix | refine Off.mix2 ?_ rfl)), Look.here⟩
    apply Exists.intro
    refine ⟨fun h37 => ?_, fun u41 => ?_⟩
    · try simp only [decide_eq_true_eq, decide_eq_false_iff_not, Bool.and_eq_true, Bool.or_eq_true, Bool.not_eq_true', Bool.not_eq_false', Bool.or_eq_false_iff, Bool.and_eq_false_imp] at h37
      refine Seq.gy rfl rfl rfl ?_
      refine Seq.p rfl (Ev.iaArrB ar.a2_int) ?_
      refine Seq.gy rfl rfl rfl ?_
      refine Seq.p rfl (Ev.ldB sc.int) ?_
      refine Seq.gy rfl rfl rfl ?_
      refine Seq.p rfl Ev.lt ?_
      refine Seq.p rfl Ev.pickF ?_
      exact Seq.nil ⟨rfl, (by repeat (first | with_reducible exact Off.refl | refine Off.upd ?_ rfl | exact Off.mix | refine Off.mix2 ?_ rfl)), Look.here⟩
    refine Seq.p rfl Ev.move ?_
    refine Seq.orG (D := [42, 43, 44, 45, 46, 47, 48]) (d := 42) (t := 48) (k := 6) (hn := fun h42 => ?_) (hx := ?_)
    · repeat (first | refine Seq.gn rfl rfl rfl rfl ?_ | refine Seq.gu rfl rfl rfl ?_)
      refine Seq.p rfl Ev.pickT ?_
      exact Seq.nil ⟨rfl, (by repeat (first | with_reducible exact Off.refl | refine Off.upd ?_ rfl | exact Off.mix | refine Off.mix2 ?_ rfl)), Look.here⟩
    apply Exists.intro
    refine ⟨fun h42 => ?_, fun u48 => ?_⟩
    · try simp only [decide_eq_true_eq, decide_eq_false_iff_not, Bool.and_eq_true, Bool.or_eq_true, Bool.not_eq_true', Bool.not_eq_false', Bool.or_eq_false_iff, Bool.and_eq_false_imp] at h42
      refine Seq.gy rfl rfl rfl ?_
      refine Seq.p rfl (Ev.iaArrB ar.a2_int) ?_
      refine Seq.gy rfl rfl rfl ?_
      refine Seq.p rfl (Ev.ldB sc.int) ?_
      refine Seq.gy rfl rfl rfl ?_
      refine Seq.p rfl Ev.move ?_
      refine Seq.gy rfl rfl rfl ?_
      refine Seq.p rfl (Ev.lenSl sl.sl_uint8 (hr := RAt.own (enc := byteEnc) (xs := eb) (hs := by omega))) ?_
      refine Seq.gy rfl rfl rfl ?_
      refine Seq.p rfl Ev.ge ?_
      refine Seq.p rfl Ev.pickF ?_
      exact Seq.nil ⟨rfl, (by repeat (first | with_reducible exact Off.refl | refine Off.upd ?_ rfl | exact Off.mix | refine Off.mix2 ?_ rfl)), Look.here⟩
    refine Seq.p rfl Ev.move ?_
    refine Seq.orG (D := [49, 50, 51, 52, 53, 54]) (d := 49) (t := 54) (k := 5) (hn := fun h49 => ?_) (hx := ?_)
    · repeat (first | refine Seq.gn rfl rfl rfl rfl ?_ | refine Seq.gu rfl rfl rfl ?_)
      refine Seq.p rfl Ev.pickT ?_
      exact Seq.nil ⟨rfl, (by repeat (first | with_reducible exact Off.refl | refine Off.upd ?_ rfl | exact Off.mix | refine Off.mix2 ?_ rfl)), Look.here⟩
    apply Exists.intro
    refine ⟨fun h49 => ?_, fun u54 => ?_⟩
    · try simp only [decide_eq_true_eq, decide_eq_false_iff_not, Bool.and_eq_true, Bool.or_eq_true, Bool.not_eq_true', Bool.not_eq_false', Bool.or_eq_false_iff, Bool.and_eq_false_imp] at h49
      refine Seq.gy rfl rfl rfl ?_
      refine Seq.p rfl (Ev.iaArrB ar.a2_int) ?_
      refine Seq.gy rfl rfl rfl ?_
      refine Seq.p rfl (Ev.ldB sc.int) ?_
      refine Seq.gy rfl rfl rfl ?_
      refine Seq.p rfl (Ev.convU8W it.int it.uint8) ?_
      refine Seq.gy rfl rfl rfl ?_
      refine Seq.p rfl Ev.eq ?_
      refine Seq.p rfl Ev.pickF ?_
      exact Seq.nil ⟨rfl, (by repeat (first | with_reducible exact Off.refl | refine Off.upd ?_ rfl | exact Off.mix | refine Off.mix2 ?_ rfl)), Look.here⟩
    refine Seq.nil ?_
    first | refine JC.c (ht := fun c54 => ?_) (hf := fun c54 => ?_) | refine JC.cb (ht := fun c54 => ?_) (hf := fun c54 => ?_)
    · -- then_t54
      refine JC.rs ?_
      refine Seq.p rfl Ev.assign ?_
      refine Seq.nil ?_
      refine JC.ret ?_
      -- return 0
      show retQ _ _ _ _ _ _ _ _
      refine ret1 (hp := Part.nil _) (hpost := ?_)
      rfl
    · -- else_t54
      simp only [Bool.or_eq_false_iff, decide_eq_false_iff_not] at c54
      obtain ⟨⟨⟨g1, g2⟩, g3⟩, g4⟩ := c54
      obtain rfl : ec = 0 := Classical.not_not.1 g1
      obtain ⟨q, rfl⟩ : ∃ q : Nat, a0 = q := ⟨a0.toNat, (Int.toNat_of_nonneg (by omega)).symm⟩
      have hq : q < eb.length := by omega
      have hBe : isBytes eb := by rw [(encF_ok hef).2.2.2.2]; exact line_bytes kind xs
      have hxq := isBytes_get hBe hq
      obtain ⟨x1, x2, x3⟩ := xor_ne (b := a1) hxq g4
      refine JC.skip ?_
      refine JC.rs ?_
      refine Seq.buildSl (cs := []) (hsl := sl.sl_uint8) (hz := z.uint8) (hcs := rfl) (k := ?_); intro b55
      refine Seq.re (fun w h => Upd.boxOwn h (n := 0) (size := 1) At.z rfl (by omega)) ?_
      refine Seq.p rfl Ev.move ?_
      refine Seq.append (hsl := sl.sl_uint8) (he := el.uint8) (hH := At.z) (hsrc := fun w' hw => Src.rsl sl.sl_uint8 (RAt.up (RAt.own (enc := byteEnc) (xs := eb)) hw) (by omega) byteOne) (k := ?_); intro A57 c57
      rw [Nat.zero_add eb.length, List.nil_append]
      refine Seq.p rfl Ev.assign ?_
      refine Seq.nil ?_
      refine JC.asE 0 mixed ?_
      refine Any.p 0 rfl (by kernel_rfl) (by kernel_rfl) (by kernel_rfl) rfl Ev.move ?_
      refine Any.p 1 rfl (by kernel_rfl) (by kernel_rfl) (by kernel_rfl) rfl (Ev.iaArrB ar.a2_int) ?_
      refine Any.p 2 rfl (by kernel_rfl) (by kernel_rfl) (by kernel_rfl) rfl (Ev.ldB sc.int) ?_
      refine Any.p 3 rfl (by kernel_rfl) (by kernel_rfl) (by kernel_rfl) rfl Ev.move ?_
      refine Any.p 4 rfl (by kernel_rfl) (by kernel_rfl) (by kernel_rfl) rfl (Ev.iaArrB ar.a2_int) ?_
      refine Any.p 5 rfl (by kernel_rfl) (by kernel_rfl) (by kernel_rfl) rfl (Ev.ldB sc.int) ?_
      refine Any.p 8 rfl (by kernel_rfl) (by kernel_rfl) (by kernel_rfl) rfl (Ev.iaArrB ar.a2_int) ?_
      refine Any.p 9 rfl (by kernel_rfl) (by kernel_rfl) (by kernel_rfl) rfl (Ev.ldB sc.int) ?_
      refine Any.p 10 rfl (by kernel_rfl) (by kernel_rfl) (by kernel_rfl) rfl (Ev.convU8W it.int it.uint8) ?_
      refine Any.one 6 rfl (by kernel_rfl) ?_
      refine Seq.p rfl (Ev.iaN sl.sl_uint8 (hr := RAt.own (enc := byteEnc) (xs := eb))) ?_
      refine Seq.nil ⟨(by repeat (first | exact Part.refl _ | exact Part.nil _ | apply Part.here | apply Part.skip)), ?_⟩
      refine Any.one 7 rfl (by kernel_rfl) ?_
      refine Seq.p rfl (Ev.ldE1 sc.uint8 (hr := RAt.own (enc := byteEnc) (xs := eb))) ?_
      refine Seq.nil ⟨(by repeat (first | exact Part.refl _ | exact Part.nil _ | apply Part.here | apply Part.skip)), ?_⟩
      refine Any.p 11 rfl (by kernel_rfl) (by kernel_rfl) (by kernel_rfl) rfl (Ev.bits (k := .u8) (· ^^^ ·) (.inr (.inr (.inl ⟨rfl, rfl⟩)))) ?_
      refine Any.one 12 rfl (by kernel_rfl) ?_
      refine Seq.p rfl (Ev.iaN sl.sl_uint8 (hr := RAt.own (enc := byteEnc) (xs := eb))) ?_
      refine Seq.nil ⟨(by repeat (first | exact Part.refl _ | exact Part.nil _ | apply Part.here | apply Part.skip)), ?_⟩
      refine Any.one 13 rfl (by kernel_rfl) ?_
      refine Seq.stOwn (enc := byteEnc) (xs := eb) (q := q) (IntKind.u8.wrap ((BitVec.ofInt IntKind.u8.bits eb[q]! ^^^ BitVec.ofInt IntKind.u8.bits (a1 % 256)).toNat)) sz.uint8 (by decide) (h1 := byteOne) (k := ?_)
      refine Seq.nil ⟨(by repeat (first | exact Part.refl _ | exact Part.nil _ | apply Part.here | apply Part.skip)), ?_⟩
      refine Any.done (by kernel_rfl) ?_
      obtain ⟨y, hy⟩ : ∃ y, y = IntKind.u8.wrap ((BitVec.ofInt IntKind.u8.bits eb[q]! ^^^ BitVec.ofInt IntKind.u8.bits (a1 % 256)).toNat) := ⟨_, rfl⟩
      rw [← hy] at x1 x2 x3 ⊢
      have hsp := spoilt hef hq ⟨x2, x3⟩ x1
      have hBs : isBytes (eb.set q y) := by
        intro z hz
        rcases List.mem_or_eq_of_mem_set hz with h | h
        · exact hBe z h
        · rw [h]; exact ⟨x2, x3⟩
      have hsl : (eb.set q y).length = eb.length := List.length_set
      obtain ⟨bs, hbs⟩ : ∃ b, b = eb.set q y := ⟨_, rfl⟩
      rw [← hbs] at hsp hBs hsl ⊢
      refine JC.rs ?_
      refine Seq.p rfl Ev.move ?_
      refine Seq.call rfl (fun w' hw => textDecode (RAt.up (RAt.own (enc := byteEnc) (xs := bs)) hw) hBs (by omega) (hL.upd hw)) (F := _) (by exact List.Perm.refl _) ?_
      rintro _ _ ⟨A73, c73, rfl, rfl⟩
      simp only [List.cons_append, List.nil_append]
      refine Seq.p rfl Ev.move ?_
      refine Seq.p rfl Ev.extract ?_
      refine Seq.p rfl Ev.extract ?_
      refine Seq.p rfl Ev.extract ?_
      refine Seq.p rfl Ev.extract ?_
      refine Seq.p rfl Ev.assign ?_
      refine Seq.p rfl Ev.assign ?_
      refine Seq.p rfl Ev.assign ?_
      refine Seq.p rfl Ev.assign ?_
      refine Seq.nil ?_
      refine JC.rs ?_
      refine Seq.p rfl Ev.move ?_
      refine Seq.p rfl Ev.ne ?_
      refine Seq.p rfl Ev.move ?_
      refine Seq.orG (D := [80, 81, 82, 83, 84, 85]) (d := 80) (t := 85) (k := 5) (hn := fun h80 => ?_) (hx := ?_)
      · repeat (first | refine Seq.gn rfl rfl rfl rfl ?_ | refine Seq.gu rfl rfl rfl ?_)
        refine Seq.p rfl Ev.pickT ?_
        exact Seq.nil ⟨rfl, (by repeat (first | with_reducible exact Off.refl | refine Off.upd ?_ rfl | exact Off.mix | refine Off.mix2 ?_ rfl)), Look.here⟩
      apply Exists.intro
      refine ⟨fun h80 => ?_, fun u85 => ?_⟩
      · try simp only [decide_eq_true_eq, decide_eq_false_iff_not, Bool.and_eq_true, Bool.or_eq_true, Bool.not_eq_true', Bool.not_eq_false', Bool.or_eq_false_iff, Bool.and_eq_false_imp] at h80
        refine Seq.gy rfl rfl rfl ?_
        refine Seq.p rfl Ev.move ?_
        refine Seq.gy rfl rfl rfl ?_
        refine Seq.p rfl Ev.move ?_
        refine Seq.gy rfl rfl rfl ?_
        refine Seq.p rfl (Ev.lenSl sl.sl_uint8 (hr := RAt.own (enc := byteEnc) (xs := eb) (hs := by omega))) ?_
        refine Seq.gy rfl rfl rfl ?_
        refine Seq.p rfl Ev.ne ?_
        refine Seq.p rfl Ev.pickF ?_
        exact Seq.nil ⟨rfl, (by repeat (first | with_reducible exact Off.refl | refine Off.upd ?_ rfl | exact Off.mix | refine Off.mix2 ?_ rfl)), Look.here⟩
      refine Seq.p rfl Ev.assign ?_
      refine Seq.nil ?_
      refine JC.ret ?_
      -- return 1
      show retQ _ _ _ _ _ _ _ _
      refine ret1 (hp := Part.nil _) (hpost := ?_)
      by_cases h0 : (readF bs).why = 0
      · have h1 := hsp h0
        have h2 := readF_ok_place h0
        rw [h2]
        have h3 : ((readF bs).size : Int) ≠ (eb.length : Int) := by omega
        simp [h3]
      · simp [h0]
end Go.Rx
/- From the reading of a call's arguments to tags; from what a row lists to what the walks want. -/
namespace Go.Rx
open Go Go.RowKit
set_option linter.unusedVariables false
section
variable {H : Type} {enc : TypeId × Value → H} {P : Program} {w : World} {base : Nat} {held : Bool}
theorem weights_mem_all {e : TypeId} {n : Nat} : ∀ {ds : List (DataW H)} {d : DataW H}, d ∈ ds → n ∈ d.weights P e → n ∈ DataW.weightsAll P e ds
  | x :: r, d, hd, hn => by
    simp only [DataW.weightsAll, List.mem_append]
    rcases List.mem_cons.1 hd with rfl | hd
    · exact .inl hn
    · exact .inr (weights_mem_all hd hn)
/-- A slice of plain data, and what is told of each row by its reading. -/
theorem open_rows2 {α : Type} [Inhabited α] {en : α → List Value} {dec : List Value → α} {l : List Sort1} {t e : TypeId} {fuel : Nat} {cs : List Value} {x : DataW H × List MemPlace} (Q : List Value → Prop) (ht : P.underlying t = some (.slice e)) (hs : sorts P 20 e = some l) (hpos : 0 < P.bytesOf e)
    (hen : ∀ cs, areSorts l cs = true → en (dec cs) = cs) (hQ : ∀ fuel row y, DataW.trod enc P w base (fun _ => true) held fuel e row = some y → Light P e y.1 → areSorts l row = true → Q row)
    (h : DataW.trod enc P w base (fun _ => true) held fuel t cs = some x) (hl : Light P t x.1) :
    ∃ (A : Option Addr) (c : Nat) (xs : List α), cs = [.slice A xs.length c] ∧ RSl en l.length w [] (.slice A xs.length c) xs ∧ xs.length * P.bytesOf e ≤ reachBytes ∧ ∀ x ∈ xs, Q (en x) := by
  rcases DataW.trod_slice ht h with ⟨rfl, rfl⟩ | ⟨a, len, cap, elems, rest, n, rfl, rfl, rfl, hb, hlc, hcm, hel, hget, hsp, _⟩
  · exact ⟨none, 0, [], rfl, ⟨⟨none, 0, rfl, Nat.le_refl _, fun _ => rfl⟩, by simp, by simp, fun i hi => by simp at hi⟩, by simp, by simp⟩
  · have hw := hl ((elems.map (·.1)).length + (rest.map (·.1)).length |> (· * P.bytesOf e)) (by simp [DataW.weights, ht])
    have hrow : ∀ i, i < len → ∃ row, areSorts l row = true ∧ Q row ∧ ∀ j u, row[j]? = some u → w.cell? ((a.add (i * l.length)).add j) = some u := by
      intro i hi
      have h1 := hget i hi
      have h2 : i < elems.length := by omega
      rw [List.getElem?_eq_getElem h2, Option.bind_eq_some_iff] at h1
      obtain ⟨row, hr1, hr2⟩ := h1
      rw [sorts_cells hs] at hr1
      have g := trod_plain 20 e l hs n row _ hr2
      have hli : Light P e elems[i].1 := fun m hm => hl m (by
        simp only [DataW.weights, ht]
        refine List.mem_cons_of_mem _ (List.mem_append.2 (.inl ?_))
        exact weights_mem_all (List.mem_map.2 ⟨elems[i], List.getElem_mem _, rfl⟩) hm)
      exact ⟨row, g.1, hQ n row _ hr2 hli g.1, (cells?_get hr1).2⟩
    classical
    let f : Nat → α := fun i => if h : i < len then dec (Classical.choose (hrow i h)) else default
    have hf : ∀ i (h : i < len), en (f i) = Classical.choose (hrow i h) := by
      intro i h
      simp only [f, dif_pos h]
      exact hen _ (Classical.choose_spec (hrow i h)).1
    refine ⟨some a, cap, (List.range len).map f, by simp, ⟨⟨some a, cap, by simp, by simpa using hlc, by simp⟩, ?_, ?_, ?_⟩, ?_, ?_⟩
    · simp at hw ⊢
      have : len * 1 ≤ reachBytes := Nat.le_trans (Nat.mul_le_mul (by omega : len ≤ elems.length + rest.length) hpos) hw
      simp only [reachBytes] at this
      omega
    · intro x hx
      obtain ⟨i, hi, rfl⟩ := List.mem_map.1 hx
      have hi' : i < len := by simpa using hi
      rw [hf i hi']
      exact areSorts_length (Classical.choose_spec (hrow i hi')).1
    · intro i hi j u hu
      have hi' : i < len := by simpa using hi
      have e1 : ((List.range len).map f)[i]! = f i := by
        rw [getElem!_pos _ i hi]
        simp
      rw [e1, hf i hi'] at hu
      have := (Classical.choose_spec (hrow i hi')).2.2 j u hu
      rw [Addr.add_add] at this
      exact ⟨by simpa [sbase] using this, by simp⟩
    · simp at hw ⊢
      refine Nat.le_trans (Nat.mul_le_mul_right _ ?_) hw
      omega
    · intro x hx
      obtain ⟨i, hi, rfl⟩ := List.mem_map.1 hx
      have hi' : i < len := by simpa using hi
      rw [hf i hi']
      exact (Classical.choose_spec (hrow i hi')).2.1
end
def Tg.dec : List Value → Tg
  | [.int .i64 n, .string s] => ⟨n, s⟩
  | _ => default
theorem tg_sorts {cs : List Value} (h : areSorts [.int .i64, .str] cs = true) : ∃ n s, cs = [.int .i64 n, .string s] := by
  obtain ⟨c0, r0, rfl, h0, h⟩ := areSorts_cons h
  obtain ⟨c1, r1, rfl, h1, h⟩ := areSorts_cons h
  obtain rfl := areSorts_nil h
  obtain ⟨n0, rfl⟩ := isSort_int h0
  cases c1 <;> simp [isSort] at h1
  exact ⟨_, _, rfl⟩
theorem open_tags {H : Type} {enc : TypeId × Value → H} {W : World} {v : Value} {d : DataW H} {p : List MemPlace} (h : DataW.Trod enc Go.Proofs.Tryd.prog W 0 (fun _ => true) true 22 v d p) (hl : Light Go.Proofs.Tryd.prog 22 d) (hv : ∃ A n c, v = .slice A n c) :
    ∃ xs : List Tg, RSl Tg.enc 2 W [] v xs ∧ (∀ t ∈ xs, t.value.size ≤ 281474976710656) ∧ xs.length * 24 ≤ 140737488355328 := by
  obtain ⟨A, n, c, rfl⟩ := hv
  obtain ⟨fuel, hf⟩ := h
  obtain ⟨A2, c2, xs, h1, r1, l1, w1⟩ := open_rows2 (en := Tg.enc) (dec := Tg.dec) (fun row => ∀ n s, row = [.int .i64 n, .string s] → s.size ≤ reachBytes) Go.Proofs.Tryd.underlying22 so.api_Tag (by rw [byt.api_Tag]; decide) (fun cs h => by
    obtain ⟨n, s, rfl⟩ := tg_sorts h
    rfl) (fun fuel row y hy hly hso n s hrow => by
      obtain ⟨ys, m, _, rfl, _, hyl, hg⟩ := DataW.trod_struct Go.Proofs.Tryd.underlying30 hy
      have h1 : ys.length = 2 := hyl
      have h2 := hg 1 _ rfl
      have h3 : ys[1]? = some ys[1] := List.getElem?_eq_getElem (by omega)
      rw [h3] at h2
      obtain ⟨s', e1, e2, _⟩ := DataW.trod_string Go.Proofs.Tryd.underlying9 h2
      have h4 := light_field Go.Proofs.Tryd.underlying30 hly (i := 1) rfl h3
      have hc : (Go.Proofs.Tryd.prog.cellsOf 9) = 1 := by kernel_rfl
      have e3 : s' = s := by
        subst hrow
        have e1' : ([Value.int .i64 n, Value.string s].drop 1).take (Go.Proofs.Tryd.prog.cellsOf 9) = [.string s'] := e1
        rw [hc] at e1'
        simp at e1'
        exact e1'.symm
      subst e3
      have h5 := h4 s'.data.toList.length (by rw [e2]; simp [DataW.weights])
      simpa using h5) hf hl
  rw [byt.api_Tag] at l1
  have e : (Value.slice A n c).cells.toList = [.slice A n c] := rfl
  rw [e] at h1
  rw [← (List.cons.inj h1).1] at r1
  refine ⟨xs, r1, fun t ht => ?_, by simp only [reachBytes] at l1; omega⟩
  have := w1 t ht _ _ rfl
  simp only [reachBytes] at this
  omega
end Go.Rx
namespace Go.Proofs.YtcggppjpnepoiaaDoor
open Go Go.RowKit Go.Rx Go.ChangeAt
set_option linter.unusedVariables false
theorem gSyn : Go.Proofs.Tryd.prog.globalNamed "strconv.ErrSyntax" = some 1 := by kernel_rfl
theorem gRng : Go.Proofs.Tryd.prog.globalNamed "strconv.ErrRange" = some 2 := by kernel_rfl
theorem gTab : Go.Proofs.Tryd.prog.globalNamed "internal/strconv.uint64pow10" = some 3 := by kernel_rfl
theorem gSynT : (Go.Proofs.Tryd.prog.globals[1]?).map (·.type) = some 68 := by kernel_rfl
theorem gRngT : (Go.Proofs.Tryd.prog.globals[2]?).map (·.type) = some 68 := by kernel_rfl
theorem gTabT : (Go.Proofs.Tryd.prog.globals[3]?).map (·.type) = some 135 := by kernel_rfl
theorem cells146 : Go.Proofs.Tryd.prog.cellsOf 146 = 1 := by kernel_rfl
theorem cells9 : Go.Proofs.Tryd.prog.cellsOf 9 = 1 := by kernel_rfl
theorem cells25 : Go.Proofs.Tryd.prog.cellsOf 25 = 1 := by kernel_rfl
theorem cells135 : Go.Proofs.Tryd.prog.cellsOf 135 = 20 := by kernel_rfl
theorem starErr : "*" ++ "errors.errorString" = "*errors.errorString" := by decide
theorem rowErr (u : TypeId) (h : Go.Proofs.Tryd.prog.typeName? 3 u = some "*errors.errorString") : u = 144 :=
  typeName_ptr_named (nm := "errors.errorString") (by rw [starErr]; kernel_rfl) (by kernel_rfl) (by decide) u (by rw [starErr]; exact h)
/-- What the rows of this seat list. -/
def theLaid : List (String × DataW Unit) := [("math/bits.deBruijn32tab", Rows.laid_math_bits_deBruijn32tab), ("math/bits.deBruijn64tab", Rows.laid_math_bits_deBruijn64tab), ("internal/strconv.uint64pow10", Rows.laid_internal_strconv_uint64pow10), ("strconv.ErrRange", Rows.laid_strconv_ErrRange), ("strconv.ErrSyntax", Rows.laid_strconv_ErrSyntax)]
theorem laid_of_met {W : World} (h : laidMet Go.Proofs.Tryd.prog theLaid W) : Laid W := by
  have h3 := h.tail.tail
  have hT : Lib.TabIs Go.Proofs.Tryd.prog W "internal/strconv.uint64pow10" .u64 Lib.pow10Tab := Lib.tabIs_of_head (zs := Lib.pow10Tab) gTab gTabT Go.Proofs.Tryd.underlying135 Go.Proofs.Tryd.underlying25 cells25 cells135 h3
  obtain ⟨a0, s0, hv0, -, -, -⟩ := laid_sentinel h3.tail gRng gRngT Go.Proofs.Tryd.underlying68 rowErr Go.Proofs.Tryd.underlying144 Go.Proofs.Tryd.underlying146 rfl rfl Go.Proofs.Tryd.underlying9 cells146 cells9
  obtain ⟨a1, s1, hv1, -, -, -⟩ := laid_sentinel h3.tail.tail gSyn gSynT Go.Proofs.Tryd.underlying68 rowErr Go.Proofs.Tryd.underlying144 Go.Proofs.Tryd.underlying146 rfl rfl Go.Proofs.Tryd.underlying9 cells146 cells9
  exact ⟨hT, ⟨_, _, hv1⟩, ⟨_, _, hv0⟩⟩
theorem met_plain {W : World} (h : laidMetH Go.Proofs.Tryd.prog theLaid W) : laidMet Go.Proofs.Tryd.prog theLaid W := h
end Go.Proofs.YtcggppjpnepoiaaDoor
namespace Go.Proofs.YtcggppjpnepoiaaDoor
open Go Go.RowKit Go.Rx Go.ChangeAt
theorem Tryd.own : ownKnob Go.Proofs.Tryd.prog.godebug = none := by kernel_rfl
theorem Tryd.laidOut : laidOutB Go.Proofs.Tryd.prog = true := by kernel_rfl
/-- A listed row of numbers as cells. -/
def tabCells : DataW Unit → Array Value
  | .agg l => (l.map fun
    | .lit (.int k n) => Value.int k n
    | _ => .nilIface).toArray
  | _ => #[]
def synS : ByteArray := { data := #[105, 110, 118, 97, 108, 105, 100, 32, 115, 121, 110, 116, 97, 120] }
def rngS : ByteArray := { data := #[118, 97, 108, 117, 101, 32, 111, 117, 116, 32, 111, 102, 32, 114, 97, 110, 103, 101] }
/-- So many blocks has the settled world. -/
noncomputable def low : Nat := (World.holding Go.Proofs.Tryd.prog default ⟨#[], #[], []⟩).heap.size
def setC (cs : Array Value) : Obj → Obj
  | .cells _ t frozen => .cells cs t frozen
  | o => o
/-- A settled world that holds what the rows list. -/
noncomputable def laidWorld (os : Os) : World :=
  let w0 := World.holding Go.Proofs.Tryd.prog os ⟨#[.cells #[.string synS] 146, .cells #[.string rngS] 146], #[], []⟩
  { w0 with heap := ((((w0.heap.modify 1 (setC #[.iface 144 (.pointer (some ⟨low, 0, none⟩))])).modify 2 (setC #[.iface 144 (.pointer (some ⟨low + 1, 0, none⟩))])).modify 3 (setC (tabCells Rows.laid_internal_strconv_uint64pow10))).modify 4 (setC (tabCells Rows.laid_math_bits_deBruijn32tab))).modify 5 (setC (tabCells Rows.laid_math_bits_deBruijn64tab)) }
theorem laidWorld_met (os : Os) (args : Array Value) : laidMetH Go.Proofs.Tryd.prog theLaid ((laidWorld os).forCall (fun _ _ => 0) ⟨#[], args, []⟩).memory :=
  show laidMet Go.Proofs.Tryd.prog theLaid _ from laidMet_of_run' 8 (by kernel_rfl) (by kernel_rfl)
end Go.Proofs.YtcggppjpnepoiaaDoor
/- From the reading of an argument to tags, with what they weigh; the row and the tied card of bourselaw03.TextBack, the second form. -/
namespace Go.Proofs.YtcggppjpnepoiaaDoor
open Go Go.RowKit Go.WideShapes Go.ChangeShapes Go.ChangeAt Go.Rx
set_option linter.unusedVariables false
theorem bulk_in {H : Type} {d : DataW H} {l : List (DataW H)} (h : d ∈ l) : Rows.uptoBulk d ≤ Rows.uptoBulkAll l := by
  induction l with
  | nil => cases h
  | cons x r ih =>
    simp only [Rows.uptoBulkAll]
    cases List.mem_cons.1 h with
    | inl e => subst e; omega
    | inr e => have := ih e; omega
theorem bulk_sum {H : Type} (l : List (DataW H)) : (l.map Rows.uptoBulk).sum = Rows.uptoBulkAll l := by
  induction l with
  | nil => simp [Rows.uptoBulkAll]
  | cons x r ih => simp [Rows.uptoBulkAll, ih]
def tagW (t : Tg) : Nat := t.value.size + 1
set_option maxRecDepth 100000 in
theorem open_tagsW {H : Type} {enc : TypeId × Value → H} {W : World} {v : Value} {d : DataW H} {p : List MemPlace} (h : DataW.Trod enc Go.Proofs.Tryd.prog W 0 (fun _ => true) true 22 v d p) (hl : Light Go.Proofs.Tryd.prog 22 d) (hv : ∃ A n c, v = .slice A n c) :
    ∃ xs : List Tg, RSl Tg.enc 2 W [] v xs ∧ (∀ t ∈ xs, t.tag ≤ 9223372036854775807) ∧ ∀ N, Rows.uptoBulk d ≤ N → (xs.map tagW).sum ≤ N := by
  obtain ⟨A, n, c, rfl⟩ := hv
  obtain ⟨fuel, hf⟩ := h
  obtain ⟨A2, c2, xs, h1, r1, l1, w1, w2⟩ := open_rowsW (en := Tg.enc) (k := 2) (fun t => t.tag ≤ 9223372036854775807) tagW Rows.uptoBulk Go.Proofs.Tryd.underlying22 ce.api_Tag (by rw [byt.api_Tag]; decide) (fun fuel row y hy hly hrl => by
    obtain ⟨ys, m, _, rfl, _, hyl, hg⟩ := DataW.trod_struct Go.Proofs.Tryd.underlying30 hy
    have hy2 : ys.length = 2 := hyl
    have g0 := hg 0 _ rfl
    have g1 := hg 1 _ rfl
    rw [List.getElem?_eq_getElem (by omega)] at g0 g1
    obtain ⟨k, e3, wk⟩ := trod_num so.int g0
    obtain ⟨s, e4, e5, _⟩ := DataW.trod_string Go.Proofs.Tryd.underlying9 g1
    obtain ⟨a, b, rfl⟩ : ∃ a b, row = [a, b] := by
      match row, hrl with
      | [a, b], _ => exact ⟨a, b, rfl⟩
    have c0 : Go.Proofs.Tryd.prog.cellsOf 3 = 1 := ce.int
    have c1 : Go.Proofs.Tryd.prog.cellsOf 9 = 1 := ce.string
    have e3' : ([a, b].drop 0).take (Go.Proofs.Tryd.prog.cellsOf 3) = [.int .i64 k] := e3
    have e4' : ([a, b].drop 1).take (Go.Proofs.Tryd.prog.cellsOf 9) = [.string s] := e4
    rw [c0] at e3'
    rw [c1] at e4'
    simp at e3' e4'
    refine ⟨⟨k, s⟩, by rw [e3', e4']; rfl, ?_, ?_⟩
    · unfold Lit.wf at wk
      rw [Bool.and_eq_true] at wk
      exact of_decide_eq_true wk.2
    · have h5 := bulk_in (d := (ys[1]).1) (l := ys.map (·.1)) (List.mem_map.2 ⟨ys[1], List.getElem_mem _, rfl⟩)
      rw [e5] at h5
      simp only [Rows.uptoBulk] at h5 ⊢
      have h6 : s.data.toList.length = s.size := by simp
      show s.size + 1 ≤ _
      omega) hf hl
  have e : (Value.slice A n c).cells.toList = [.slice A n c] := rfl
  rw [e] at h1
  rw [← (List.cons.inj h1).1] at r1
  refine ⟨xs, r1, w1, fun N hN => w2 N fun elems spare he => ?_⟩
  have he' : d = .slice elems spare := he
  rw [bulk_sum]
  rw [he'] at hN
  simp only [Rows.uptoBulk] at hN
  omega
theorem decL_twenty {n : Nat} (h : n ≤ 18446744073709551615) : (decL n).length ≤ 20 := by
  have h1 := natF_dec h
  unfold natF at h1
  split at h1
  · cases h1
  · rename_i hc
    rw [strOf_size] at hc
    omega
theorem body_w {kind : ByteArray} : ∀ {xs : List Tg}, (∀ t ∈ xs, t.tag ≤ 9223372036854775807) → (xs.flatMap fun t => fieldL t.tag.toNat t.value).length ≤ 22 * (xs.map tagW).sum
  | [], _ => by simp
  | t :: r, h => by
    have ih := body_w (kind := kind) (xs := r) (fun x hx => h x (List.mem_cons_of_mem _ hx))
    have h1 := h t (List.mem_cons_self ..)
    have h2 := decL_twenty (n := t.tag.toNat) (by omega)
    rw [List.flatMap_cons, List.length_append, field_len, List.map_cons, List.sum_cons]
    unfold tagW at ih ⊢
    omega
theorem body_small {kind : ByteArray} {xs : List Tg} {N : Nat} (h : ∀ t ∈ xs, t.tag ≤ 9223372036854775807) (hN : (xs.map tagW).sum ≤ N) (hk : kind.size ≤ N) (h2 : N ≤ 1048576) :
    (bodyL kind xs).length ≤ 1099511627776 ∧ xs.length ≤ 1099511627776 ∧ (∀ t ∈ xs, t.value.size ≤ 70368744177664) ∧ kind.size ≤ 70368744177664 := by
  have h3 := body_w (kind := kind) h
  have h4 := decL_twenty (n := 35) (by decide)
  have h5 : xs.length ≤ (xs.map tagW).sum := by
    clear h hN h3
    induction xs with
    | nil => simp
    | cons t r ih =>
      rw [List.map_cons, List.sum_cons, List.length_cons]
      unfold tagW at ih ⊢
      omega
  have h6 : ∀ t ∈ xs, t.value.size + 1 ≤ (xs.map tagW).sum := by
    clear h hN h3 h5
    induction xs with
    | nil => simp
    | cons t r ih =>
      intro x hx
      rw [List.map_cons, List.sum_cons]
      rcases List.mem_cons.1 hx with rfl | hx
      · unfold tagW; omega
      · have := ih x hx; omega
  refine ⟨?_, by omega, fun t ht => by have := h6 t ht; omega, by omega⟩
  unfold bodyL
  rw [List.length_append, field_len]
  omega
theorem bytes_small {H : Type} {enc : TypeId × Value → H} {W : World} {v : Value} {d : DataW H} {p : List MemPlace} (h : DataW.Trod enc Go.Proofs.Tryd.prog W 0 (fun _ => true) true 35 v d p) (hl : Light Go.Proofs.Tryd.prog 35 d) (hv : ∃ A n c, v = .slice A n c) (hb : Rows.uptoBulk d ≤ 1048576) :
    ∃ l : List Int, RSl byteEnc 1 W [] v l ∧ isBytes l ∧ l.length ≤ 70368744177664 := by
  obtain ⟨A, n, c, rfl⟩ := hv
  obtain ⟨fuel, hf⟩ := h
  obtain ⟨A2, c2, xs, h1, r1, l1, w1, w2⟩ := open_rowsW (en := byteEnc) (k := 1) (fun n => 0 ≤ n ∧ n ≤ 255) (fun _ => 1) Rows.uptoBulk Go.Proofs.Tryd.underlying35 ce.uint8 (by rw [byt.uint8]; decide) (fun fuel row y hy hly hrl => by
    obtain ⟨k, e3, wk⟩ := trod_num so.uint8 hy
    refine ⟨k, e3.symm, ?_, ?_⟩
    · unfold Lit.wf at wk
      rw [Bool.and_eq_true] at wk
      exact ⟨of_decide_eq_true wk.1, of_decide_eq_true wk.2⟩
    · cases y.1 with
      | lit l => cases l <;> simp [Rows.uptoBulk]
      | _ => simp [Rows.uptoBulk]) hf hl
  have e : (Value.slice A n c).cells.toList = [.slice A n c] := rfl
  rw [e] at h1
  rw [← (List.cons.inj h1).1] at r1
  have h3 := w2 1048576 (fun elems spare he => by
    have he' : d = .slice elems spare := he
    rw [bulk_sum]
    rw [he'] at hb
    simp only [Rows.uptoBulk] at hb
    omega)
  have h4 : (xs.map (fun _ => 1)).sum = xs.length := by
    clear h1 r1 l1 w1 w2 h3
    induction xs with
    | nil => rfl
    | cons x r ih => simp [ih]; omega
  exact ⟨xs, r1, w1, by omega⟩
theorem textBack_reads (os : Os) {H : Type} (enc : TypeId × Value → H) : ∃ places, DataW.whole enc Tryd.prog ((laidWorld os).forCall (fun _ _ => 0) ⟨#[], #[.string ⟨#[]⟩, .slice none 0 0, .slice none 0 0], []⟩).memory Tryd.f6.params.toList Rows.textBackSpec.vars false (#[.string ⟨#[]⟩, .slice none 0 0, .slice none 0 0] : Array Value).toList 8 = some ([.lit (.string []), .nil, .nil], [], places) :=
  ⟨[], by kernel_rfl⟩
set_option maxRecDepth 100000 in
theorem textBack_contract (H : Type) (enc : TypeId × Value → H) (W : World) (base : Nat) (args : Array Value) (ds gs : List (DataW H)) (before : List MemPlace)
    (hval0 : ∀ (j : Nat) t v, Tryd.f6.params[j]? = some t → args[j]? = some v → Value.okWide Tryd.prog W .any base t v)
    (hW : DataW.Whole enc Tryd.prog Tryd.f6.params.toList Rows.textBackSpec.vars false W args.toList ds gs before) (hcond : Rows.uptoSmall H (ds ++ gs) = true)
    (hsz0 : (DataW.weightsEach Tryd.prog (Tryd.f6.params.toList ++ Rows.textBackSpec.plain.varTypes Tryd.prog) (ds ++ gs)).all (· ≤ reachBytes) = true) (hLaid : laidMetH Tryd.prog theLaid W) (hShape : W.ShapedOpen Tryd.prog) :
    Calls Tryd.prog 6 args W fun e W' => ∃ v, e = .returned v ∧ Rows.textBackSpec.post enc Tryd.prog Tryd.f6 false true false false W args v W' := by
  have hL : Laid W := laid_of_met (met_plain hLaid)
  have hsz : (DataW.weightsEach Tryd.prog (Tryd.f6.params.toList ++ Rows.textBackSpec.plain.varTypes Tryd.prog) (ds ++ gs)).all (· ≤ reachBytes) = true := hsz0
  have hval : ∀ (j : Nat) t v, Tryd.f6.params[j]? = some t → args[j]? = some v → Value.okWide Tryd.prog W .any base t v := hval0
  have hW' := hW
  obtain ⟨p, q, hA0, hV, rfl, hfz, hnd⟩ := hW
  have hA : DataW.TrodAll enc Tryd.prog W 0 (fun _ => true) true Tryd.f6.params.toList args.toList ds p := hA0
  rw [Tryd.params6] at hA hval hsz
  obtain ⟨v0, vs0, d0, ds0, p0, q0, hargs, rfl, rfl, h0, r0⟩ := trodAll_cons hA
  obtain ⟨v1, vs1, d1, ds1, p1, q1, rfl, rfl, rfl, h1, r1⟩ := trodAll_cons r0
  obtain ⟨v2, vs2, d2, ds2, p2, q2, rfl, rfl, rfl, h2, r2⟩ := trodAll_cons r1
  obtain ⟨rfl, rfl, rfl⟩ := trodAll_nil r2
  obtain rfl : args = #[v0, v1, v2] := by cases args; simp_all
  obtain ⟨rfl, rfl⟩ := trodVars_none hV
  have k0 := h0
  have lt0 : ∀ x ∈ p0, x.block < W.heap.size := by obtain ⟨m, hm⟩ := k0; exact DataW.trod_lt m _ _ _ hm
  have hv0 := hval 0 9 v0 rfl rfl
  have hl0 : Light Tryd.prog 9 d0 := light_arg hsz (j := 0) rfl rfl
  have k1 := h1
  have lt1 : ∀ x ∈ p1, x.block < W.heap.size := by obtain ⟨m, hm⟩ := k1; exact DataW.trod_lt m _ _ _ hm
  have hv1 := hval 1 22 v1 rfl rfl
  have hl1 : Light Tryd.prog 22 d1 := light_arg hsz (j := 1) rfl rfl
  have k2 := h2
  have lt2 : ∀ x ∈ p2, x.block < W.heap.size := by obtain ⟨m, hm⟩ := k2; exact DataW.trod_lt m _ _ _ hm
  have hv2 := hval 2 35 v2 rfl rfl
  have hl2 : Light Tryd.prog 35 d2 := light_arg hsz (j := 2) rfl rfl
  have hbk : Rows.uptoBulkAll ([d0, d1, d2] ++ []) ≤ 1048576 := of_decide_eq_true hcond
  simp only [List.cons_append, List.nil_append, Rows.uptoBulkAll] at hbk
  obtain ⟨o, rfl, rfl, rfl, w0⟩ := ChangeMaps.open_string Go.Proofs.Tryd.underlying9 hv0 h0
  obtain ⟨xs, hr, htg, hsum⟩ := open_tagsW h1 hl1 (by obtain ⟨A, n, c, rfl⟩ := okWide_slice Go.Proofs.Tryd.underlying22 hv1; exact ⟨A, n, c, rfl⟩)
  have hko : o.data.toList.length = o.size := by simp
  simp only [Rows.uptoBulk] at hbk
  obtain ⟨l, hrb, hB, hln⟩ := bytes_small h2 hl2 (by obtain ⟨A, n, c, rfl⟩ := okWide_slice Go.Proofs.Tryd.underlying35 hv2; exact ⟨A, n, c, rfl⟩) (by omega)
  obtain ⟨q1, q2, q3, q4⟩ := body_small (kind := o) htg (hsum 1048576 (by omega)) (by omega) (Nat.le_refl _)
  clear hA0 hval0 hsz0 hsz
  refine (lawBack hr hrb hB hln q4 q3 q2 q1 hL).2.mono ?_
  rintro e W' ⟨_, H', rfl, hu, rfl⟩
  have bel := hu.below'
  exact ⟨_, rfl, _, _, _, [], _, [], hW', trodAll_mk1 (shut_bool Go.Proofs.Tryd.underlying4 _), (trodAll_cons_mk (Below.trod Tryd.laidOut (by kernel_rfl) (of_decide_eq_true (by kernel_rfl)) k0 bel lt0) (trodAll_cons_mk (Below.trod Tryd.laidOut (by kernel_rfl) (of_decide_eq_true (by kernel_rfl)) k1 bel lt1) (trodAll_cons_mk (Below.trod Tryd.laidOut (by kernel_rfl) (of_decide_eq_true (by kernel_rfl)) k2 bel lt2) trodAll_mk0))), rfl, bel.frame _, fun h => by cases h⟩
set_option maxRecDepth 100000 in
theorem textBack_lifted (os : Os) (started : os.Started) (H : Type) (enc : TypeId × Value → H) (F : Stop.Interp) :
    ReturnsInHanded {} Tryd.checked os 6 .any ((Rows.OpenSpec.upto Rows.textBackSpec).preRow enc Tryd.prog Tryd.f6 Rows.textBackUptoRow.domain false Rows.textBackUptoRow.laid) (((Rows.OpenSpec.upto Rows.textBackSpec).at F).post enc Tryd.prog Tryd.f6 false true false false) := by
  obtain ⟨places, hx⟩ := textBack_reads os enc
  refine returnsInHanded_of_row (C := Tryd.checked) (s := Rows.OpenSpec.upto Rows.textBackSpec) Tryd.own started (by kernel_rfl) Tryd.func6
    (witness_row_atRef (enc := enc) (C := Tryd.checked) false (laidWorld os) #[.string ⟨#[]⟩, .slice none 0 0, .slice none 0 0] rfl (by kernel_rfl) (by kernel_rfl) (by kernel_rfl)
      (OpenSpec.preRow_of_cond 8 hx (by kernel_rfl) (fun k hk => by cases hk; kernel_rfl) (by kernel_rfl) (laidWorld_met os _))) ?_
  intro W base args ds gs before hval hW _ hcond hsz hLaid hShape _
  exact textBack_contract H enc W base args ds gs before hval hW (hcond _ rfl) hsz hLaid hShape
theorem textBack_row_holds : Rows.TextBackUptoSaid :=
  OpenClaim.holds_of_cond 6 Tryd.f6 rfl rfl rfl rfl rfl rfl rfl ⟨rfl, rfl, rfl, rfl, rfl⟩ rfl rfl rfl rfl rfl (by kernel_rfl) Tryd.func6 (by kernel_rfl)
    (of_decide_eq_true (by kernel_rfl)) (by unfold Func.isWrapper; first | (rw [if_pos (by decide +kernel)]; kernel_rfl) | (rw [if_neg (by decide +kernel)]; exact ⟨rfl, rfl⟩))
    (fun os started H enc _ F => by rw [OpenClaim.pre_eq_preRow]; exact textBack_lifted os started H enc F)
theorem textBack_holds : Rows.TextBackUptoCardSaid :=
  Claim7.holds_tied_plain_at .later [] _ _ _ _
    textBack_row_holds (fun _ h => by cases h) (by kernel_rfl) (fun _ h => by cases h) textBackUpto_row_tie rfl ⟨rfl, rfl⟩ (by kernel_rfl) rfl
    (fun f fn hf hfn => by
      obtain rfl : f = 6 := Option.some.inj ((show Tryd.prog.funcNamed "bourse/bourselaw03.TextBack" = some 6 by kernel_rfl).symm.trans hf) |>.symm
      obtain rfl : fn = Tryd.f6 := (Option.some.inj (Tryd.func6.symm.trans hfn)).symm
      refine ⟨by kernel_rfl, fun j t ht => ?_⟩
      rw [Tryd.params6] at ht
      have hm : t ∈ [9, 22, 35] := by
        have h2 := Array.mem_of_getElem? ht
        simpa using h2
      have hall : ∀ t ∈ [9, 22, 35], Tryd.prog.wantsStandIn t = false := by
        intro t ht
        simp only [List.mem_cons, List.not_mem_nil, or_false] at ht
        rcases ht with rfl | rfl | rfl <;> kernel_rfl
      exact hall t hm)
    (by kernel_rfl)
#print axioms textBack_holds
end Go.Proofs.YtcggppjpnepoiaaDoor
