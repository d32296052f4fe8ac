/- Parts of the proof. -/
import Derived.Test.YtcggppjpnepoiaaDoorPart2
import Derived.Test.YtcggppjpnepoiaaDoorPart1
import Derived.Test.YtcggppjpnepoiaaDoorRows
import Derived.Stop.LaidErr
import Derived.LaidLaws
import Derived.LaidHandle
import Derived.ChangeMaps5
import Derived.SizedLaws
import Derived.Shelf.Vars
set_option linter.unusedVariables false
set_option linter.unusedSimpArgs false
/- The law bourselaw03.TextDecodes gives true. -/
namespace Go.Rx
open Go Go.RowKit Go.Lib Go.Proofs.YtcggppjpnepoiaaDoor
set_option linter.unusedVariables false
set_option linter.unusedSimpArgs false
theorem partsF_tags {l : List Int} {f to : Nat} {kind' : ByteArray} {ys : List Tg} {N : Nat} (hN : l.length ≤ N) : ∀ {p : Nat} {kind : ByteArray} {xs : List Tg}, (∀ t ∈ xs, t.value.size ≤ N) → xs.length ≤ 64 → partsF l f to p kind xs = .ok kind' ys → (∀ t ∈ ys, t.value.size ≤ N) ∧ ys.length ≤ 64 := by
  intro p kind xs hx h64 h
  generalize hd : to - p = d
  induction d using Nat.strongRecOn generalizing p kind xs with
  | _ d ih =>
    rw [partsF] at h
    split at h
    · split at h
      · cases h
      · refine ih (to - (p + firstF 1 (l.drop p) + 1)) (by omega) ?_ (takeF_len h64) h rfl
        have hFl := fieldAt_len (l := l) (p := p)
        have hle := firstF_le 1 (l.drop p)
        rw [List.length_drop] at hle
        have hv : (fieldV (fieldAt l p)).size ≤ N := by
          unfold fieldV
          rw [strOf_size, List.length_drop]
          omega
        unfold takeF
        split
        · exact hx
        · split
          · split <;> exact hx
          · split
            · exact hx
            · split
              · exact hx
              · intro t ht
                rcases List.mem_append.1 ht with ht | ht
                · exact hx t ht
                · rw [List.mem_singleton.1 ht]
                  exact hv
    · cases h
      exact ⟨hx, h64⟩
theorem readF_tags {l : List Int} {N : Nat} (hN : l.length ≤ N) : (∀ t ∈ (readF l).tags, t.value.size ≤ N) ∧ (readF l).tags.length ≤ 64 := by
  rcases readF_cases l with ⟨a, c, h, _⟩ | ⟨f, k, _, h⟩
  · rw [h]; exact ⟨fun t ht => (by cases ht), (Nat.zero_le _)⟩
  · rw [h]
    cases hp : partsF l f (f + k) f ⟨#[]⟩ [] with
    | bad p e => exact ⟨fun t ht => (by cases ht), (Nat.zero_le _)⟩
    | ok kind xs => exact partsF_tags hN (fun t ht => (by cases ht)) (by decide) hp
theorem lentSub {w : World} {C : List Chunk} {v : Value} {l : List Int} (h : RSl byteEnc 1 w C v (l ++ markN 32)) : RSl byteEnc 1 w C (subSl v 0 l.length 1) l := by
  have h2 := h.sub (lo := 0) (hi := l.length) (Nat.zero_le _) (by rw [List.length_append]; omega)
  rwa [List.drop_zero, Nat.sub_zero, List.take_left] at h2
theorem dec7 : decDigits 7 = [55] := by rw [decDigits_one (by decide)]; rfl
/-- What was lent, all of it: what a call handed on may be cut to its beginning. -/
theorem lentCut {w0 w : World} {Cs H : List Chunk} {i : Nat} {A : Option Addr} {c : Nat} {l : List Int} (h : Upd w0 w Cs H) (hH : At H i (bytesC (.slice A (l.length + 32) c) (l ++ markN 32))) :
    Upd w0 w Cs (H.set i (bytesC (subSl (.slice A (l.length + 32) c) 0 l.length 1) l)) := by
  have h2 := Upd.reslice (enc := byteEnc) (lo := 0) (hi := l.length) h hH (fun _ => rfl) (Nat.zero_le _) (by rw [List.length_append]; omega)
  rwa [List.drop_zero, Nat.sub_zero, List.take_left] at h2
set_option maxHeartbeats 4000000 in
set_option maxRecDepth 100000 in
theorem lawDecodes {w : World} {v : Value} {l : List Int} {tag : Int} (hr : RSl byteEnc 1 w [] v l) (hB : isBytes l) (hl : l.length ≤ 140737488351232) (hL : Laid w) :
    Spec Go.Proofs.Tryd.prog 5 #[v, .int .i64 tag] w [] (fun u _ => u = .bool true) := by
  have hal : (l ++ markN 32).length = l.length + 32 := by rw [List.length_append, markN_len]
  obtain ⟨hts, htl⟩ := readF_tags (l := l) (N := 281474976710656) (by omega)
  have hl2 : l.length ≤ 281474976710656 := by omega
  obtain ⟨s1, b1, hv1⟩ := valueV_form (valueF (readF l).tags tag)
  obtain ⟨n1, c1, hn1⟩ := numV_form (valueF (readF l).tags tag)
  have hd7 := fun (w : World) (hL : Laid w) => textDecimal (w := w) (u := 7) (by decide) hL
  rw [dec7] at hd7
  refine Spec.enter (fn := Go.Proofs.Tryd.f5) (n := 126) [v, .int .i64 tag] Go.Proofs.Tryd.func5 (by kernel_rfl) rfl Go.Proofs.Tryd.ntmps5 Go.Proofs.Tryd.results5 rfl (Own.nil _) ?_
  refine JC.rs ?_
  refine Seq.p rfl Ev.assign ?_
  refine Seq.nil ?_
  refine JC.rs ?_
  refine Seq.p rfl Ev.move ?_
  refine Seq.call rfl (fun w hw => lawLent (hr.up hw) hl) (F := _) (by exact List.Perm.refl _) ?_
  rintro _ _ ⟨A1, q1, rfl, rfl⟩
  simp only [List.cons_append, List.nil_append]
  refine Seq.p rfl Ev.move ?_
  refine Seq.p rfl Ev.extract ?_
  refine Seq.p rfl Ev.extract ?_
  refine Seq.p rfl Ev.assign ?_
  refine Seq.p rfl Ev.assign ?_
  refine Seq.nil ?_
  refine JC.rs ?_
  refine Seq.p rfl Ev.move ?_
  refine Seq.call rfl (fun w hw => textDecode (lentSub (v := .slice A1 (l.length + 32) q1) (RAt.up (RAt.own (enc := byteEnc) (xs := l ++ markN 32)) hw)) hB hl2 (hL.upd hw)) (F := _) (by exact List.Perm.refl _) ?_
  rintro _ _ ⟨A2, q2, rfl, rfl⟩
  simp only [List.cons_append, List.nil_append]
  refine Seq.p rfl Ev.move ?_
  refine Seq.p rfl Ev.extract ?_
  refine Seq.p rfl Ev.extract ?_
  refine Seq.p rfl Ev.extract ?_
  refine Seq.p rfl Ev.extract ?_
  refine Seq.p rfl Ev.assign ?_
  refine Seq.p rfl Ev.assign ?_
  refine Seq.p rfl Ev.assign ?_
  refine Seq.p rfl Ev.assign ?_
  refine Seq.nil ?_
  refine JC.rs ?_
  refine Seq.p rfl Ev.move ?_
  refine Seq.call rfl (fun w hw => refDecode (hr.up hw) hB hl2) (F := _) (by exact List.Perm.refl _) ?_
  rintro _ _ ⟨A3, q3, rfl, rfl⟩
  simp only [List.cons_append, List.nil_append]
  refine Seq.p rfl Ev.move ?_
  refine Seq.p rfl Ev.extract ?_
  refine Seq.p rfl Ev.extract ?_
  refine Seq.p rfl Ev.extract ?_
  refine Seq.p rfl Ev.extract ?_
  refine Seq.p rfl Ev.assign ?_
  refine Seq.p rfl Ev.assign ?_
  refine Seq.p rfl Ev.assign ?_
  refine Seq.p rfl Ev.assign ?_
  refine Seq.nil ?_
  refine JC.seq ?_
  refine JC.rs ?_
  refine Seq.p rfl Ev.move ?_
  refine Seq.p rfl Ev.move ?_
  refine Seq.p rfl Ev.neStr ?_
  refine Seq.p rfl Ev.move ?_
  refine Seq.orG (D := [45, 46, 47, 48, 49, 50]) (d := 45) (t := 50) (k := 5) (hn := fun h45 => ?_) (hx := ?_)
  · repeat (first | refine Seq.gn rfl rfl rfl rfl ?_ | refine Seq.gu rfl rfl rfl ?_)
    refine Seq.p rfl Ev.pickT ?_
    exact Seq.nil ⟨rfl, (by repeat (first | with_reducible exact Off.refl | refine Off.upd ?_ rfl | exact Off.mix | refine Off.mix2 ?_ rfl)), Look.here⟩
  apply Exists.intro
  refine ⟨fun h45 => ?_, fun u50 => ?_⟩
  · try simp only [decide_eq_true_eq, decide_eq_false_iff_not, Bool.and_eq_true, Bool.or_eq_true, Bool.not_eq_true', Bool.not_eq_false', Bool.or_eq_false_iff, Bool.and_eq_false_imp] at h45
    refine Seq.gy rfl rfl rfl ?_
    refine Seq.p rfl Ev.move ?_
    refine Seq.gy rfl rfl rfl ?_
    refine Seq.p rfl Ev.move ?_
    refine Seq.gy rfl rfl rfl ?_
    refine Seq.callP rfl (fun w hw => lawTags (RAt.up (RAt.own (enc := Tg.enc) (xs := (readF l).tags)) hw) (RAt.up (RAt.own (enc := Tg.enc) (xs := (readF l).tags)) hw)) ?_
    refine Seq.gy rfl rfl rfl ?_
    refine Seq.p rfl Ev.not ?_
    refine Seq.p rfl Ev.pickF ?_
    exact Seq.nil ⟨rfl, (by repeat (first | with_reducible exact Off.refl | refine Off.upd ?_ rfl | exact Off.mix | refine Off.mix2 ?_ rfl)), Look.here⟩
  refine Seq.p rfl Ev.move ?_
  refine Seq.orG (D := [51, 52, 53, 54, 55]) (d := 51) (t := 55) (k := 4) (hn := fun h51 => ?_) (hx := ?_)
  · repeat (first | refine Seq.gn rfl rfl rfl rfl ?_ | refine Seq.gu rfl rfl rfl ?_)
    refine Seq.p rfl Ev.pickT ?_
    exact Seq.nil ⟨rfl, (by repeat (first | with_reducible exact Off.refl | refine Off.upd ?_ rfl | exact Off.mix | refine Off.mix2 ?_ rfl)), Look.here⟩
  apply Exists.intro
  refine ⟨fun h51 => ?_, fun u55 => ?_⟩
  · try simp only [decide_eq_true_eq, decide_eq_false_iff_not, Bool.and_eq_true, Bool.or_eq_true, Bool.not_eq_true', Bool.not_eq_false', Bool.or_eq_false_iff, Bool.and_eq_false_imp] at h51
    refine Seq.gy rfl rfl rfl ?_
    refine Seq.p rfl Ev.move ?_
    refine Seq.gy rfl rfl rfl ?_
    refine Seq.p rfl Ev.move ?_
    refine Seq.gy rfl rfl rfl ?_
    refine Seq.p rfl Ev.ne ?_
    refine Seq.p rfl Ev.pickF ?_
    exact Seq.nil ⟨rfl, (by repeat (first | with_reducible exact Off.refl | refine Off.upd ?_ rfl | exact Off.mix | refine Off.mix2 ?_ rfl)), Look.here⟩
  refine Seq.p rfl Ev.move ?_
  refine Seq.orG (D := [56, 57, 58, 59, 60]) (d := 56) (t := 60) (k := 4) (hn := fun h56 => ?_) (hx := ?_)
  · repeat (first | refine Seq.gn rfl rfl rfl rfl ?_ | refine Seq.gu rfl rfl rfl ?_)
    refine Seq.p rfl Ev.pickT ?_
    exact Seq.nil ⟨rfl, (by repeat (first | with_reducible exact Off.refl | refine Off.upd ?_ rfl | exact Off.mix | refine Off.mix2 ?_ rfl)), Look.here⟩
  apply Exists.intro
  refine ⟨fun h56 => ?_, fun u60 => ?_⟩
  · try simp only [decide_eq_true_eq, decide_eq_false_iff_not, Bool.and_eq_true, Bool.or_eq_true, Bool.not_eq_true', Bool.not_eq_false', Bool.or_eq_false_iff, Bool.and_eq_false_imp] at h56
    refine Seq.gy rfl rfl rfl ?_
    refine Seq.p rfl Ev.move ?_
    refine Seq.gy rfl rfl rfl ?_
    refine Seq.p rfl Ev.move ?_
    refine Seq.gy rfl rfl rfl ?_
    refine Seq.p rfl Ev.ne ?_
    refine Seq.p rfl Ev.pickF ?_
    exact Seq.nil ⟨rfl, (by repeat (first | with_reducible exact Off.refl | refine Off.upd ?_ rfl | exact Off.mix | refine Off.mix2 ?_ rfl)), Look.here⟩
  refine Seq.p rfl Ev.move ?_
  refine Seq.orG (D := [61, 62, 63, 64, 65, 66]) (d := 61) (t := 66) (k := 5) (hn := fun h61 => ?_) (hx := ?_)
  · repeat (first | refine Seq.gn rfl rfl rfl rfl ?_ | refine Seq.gu rfl rfl rfl ?_)
    refine Seq.p rfl Ev.pickT ?_
    exact Seq.nil ⟨rfl, (by repeat (first | with_reducible exact Off.refl | refine Off.upd ?_ rfl | exact Off.mix | refine Off.mix2 ?_ rfl)), Look.here⟩
  apply Exists.intro
  refine ⟨fun h61 => ?_, fun u66 => ?_⟩
  · try simp only [decide_eq_true_eq, decide_eq_false_iff_not, Bool.and_eq_true, Bool.or_eq_true, Bool.not_eq_true', Bool.not_eq_false', Bool.or_eq_false_iff, Bool.and_eq_false_imp] at h61
    refine Seq.gy rfl rfl rfl ?_
    refine Seq.p rfl Ev.move ?_
    refine Seq.gy rfl rfl rfl ?_
    refine Seq.p rfl Ev.move ?_
    refine Seq.gy rfl rfl rfl ?_
    refine Seq.callP rfl (fun w hw => lawKept (RAt.up (RAt.own (enc := byteEnc) (xs := l ++ markN 32)) hw) (hr.up hw) hl) ?_
    refine Seq.gy rfl rfl rfl ?_
    refine Seq.p rfl Ev.not ?_
    refine Seq.p rfl Ev.pickF ?_
    exact Seq.nil ⟨rfl, (by repeat (first | with_reducible exact Off.refl | refine Off.upd ?_ rfl | exact Off.mix | refine Off.mix2 ?_ rfl)), Look.here⟩
  refine Seq.p rfl Ev.move ?_
  refine Seq.orG (D := [67, 68, 69, 70, 71, 72, 73]) (d := 67) (t := 73) (k := 6) (hn := fun h67 => ?_) (hx := ?_)
  · repeat (first | refine Seq.gn rfl rfl rfl rfl ?_ | refine Seq.gu rfl rfl rfl ?_)
    refine Seq.p rfl Ev.pickT ?_
    exact Seq.nil ⟨rfl, (by repeat (first | with_reducible exact Off.refl | refine Off.upd ?_ rfl | exact Off.mix | refine Off.mix2 ?_ rfl)), Look.here⟩
  apply Exists.intro
  refine ⟨fun h67 => ?_, fun u73 => ?_⟩
  · try simp only [decide_eq_true_eq, decide_eq_false_iff_not, Bool.and_eq_true, Bool.or_eq_true, Bool.not_eq_true', Bool.not_eq_false', Bool.or_eq_false_iff, Bool.and_eq_false_imp] at h67
    refine Seq.gy rfl rfl rfl ?_
    refine Seq.p rfl Ev.move ?_
    refine Seq.gy rfl rfl rfl ?_
    refine Seq.callP rfl (fun w hw => textSum (lentSub (v := .slice A1 (l.length + 32) q1) (RAt.up (RAt.own (enc := byteEnc) (xs := l ++ markN 32)) hw)) hB) ?_
    refine Seq.gy rfl rfl rfl ?_
    refine Seq.p rfl Ev.move ?_
    refine Seq.gy rfl rfl rfl ?_
    refine Seq.callP rfl (fun w hw => refSum (hr.up hw) hB) ?_
    refine Seq.gy rfl rfl rfl ?_
    refine Seq.p rfl Ev.ne ?_
    refine Seq.p rfl Ev.pickF ?_
    exact Seq.nil ⟨rfl, (by repeat (first | with_reducible exact Off.refl | refine Off.upd ?_ rfl | exact Off.mix | refine Off.mix2 ?_ rfl)), Look.here⟩
  refine Seq.nil ?_
  first | refine JC.c (ht := fun c73 => ?_) (hf := fun c73 => ?_) | refine JC.cb (ht := fun c73 => ?_) (hf := fun c73 => ?_)
  · -- then_t73
    exfalso
    simp at c73
  · -- else_t73
    refine JC.skip ?_
    refine JC.rs ?_
    refine Seq.p rfl Ev.move ?_
    refine Seq.re (fun w h => lentCut h (At.s (At.s At.z))) ?_
    obtain ⟨A5, q5, h5⟩ : ∃ A c, subSl (.slice A1 (l.length + 32) q1) 0 l.length 1 = .slice A l.length c := ⟨_, _, rfl⟩
    rw [h5]
    refine Seq.call rfl (fun w hw => lawFull hl (hw.part (Part.skip (Part.skip (Part.here (Part.nil _))))).own) (F := [tagsC (.slice A3 (readF l).tags.length q3) (readF l).tags, tagsC (.slice A2 (readF l).tags.length q2) (readF l).tags]) (by exact List.perm_append_comm (l₁ := [_]) (l₂ := [_, _])) ?_
    rintro _ _ rfl
    simp only [List.nil_append]
    refine Seq.nil ?_
    refine JC.seq ?_
    refine JC.rs ?_
    refine Seq.p rfl Ev.move ?_
    refine Seq.p rfl Ev.move ?_
    refine Seq.callP rfl (fun w hw => lawTags (RAt.up (RAt.own (enc := Tg.enc) (xs := (readF l).tags)) hw) (RAt.up (RAt.own (enc := Tg.enc) (xs := (readF l).tags)) hw)) ?_
    refine Seq.p rfl Ev.not ?_
    refine Seq.nil ?_
    first | refine JC.c (ht := fun c79 => ?_) (hf := fun c79 => ?_) | refine JC.cb (ht := fun c79 => ?_) (hf := fun c79 => ?_)
    · -- then_t79
      exfalso
      simp at c79
    · -- else_t79
      refine JC.skip ?_
      refine JC.rs ?_
      refine Seq.p rfl Ev.move ?_
      refine Seq.p rfl Ev.move ?_
      refine Seq.callP rfl (fun w hw => hv1 ▸ textValue (RAt.up (RAt.own (enc := Tg.enc) (xs := (readF l).tags)) hw)) ?_
      refine Seq.p rfl Ev.move ?_
      refine Seq.p rfl Ev.extract ?_
      refine Seq.p rfl Ev.extract ?_
      refine Seq.p rfl Ev.assign ?_
      refine Seq.p rfl Ev.assign ?_
      refine Seq.nil ?_
      refine JC.rs ?_
      refine Seq.p rfl Ev.move ?_
      refine Seq.p rfl Ev.move ?_
      refine Seq.callP rfl (fun w hw => hv1 ▸ refValue (RAt.up (RAt.own (enc := Tg.enc) (xs := (readF l).tags)) hw)) ?_
      refine Seq.p rfl Ev.move ?_
      refine Seq.p rfl Ev.extract ?_
      refine Seq.p rfl Ev.extract ?_
      refine Seq.p rfl Ev.assign ?_
      refine Seq.p rfl Ev.assign ?_
      refine Seq.nil ?_
      refine JC.rs ?_
      refine Seq.p rfl Ev.move ?_
      refine Seq.p rfl Ev.move ?_
      refine Seq.callP rfl (fun w hw => hn1 ▸ textNumber (RAt.up (RAt.own (enc := Tg.enc) (xs := (readF l).tags)) hw) hts (hL.upd hw)) ?_
      refine Seq.p rfl Ev.move ?_
      refine Seq.p rfl Ev.extract ?_
      refine Seq.p rfl Ev.extract ?_
      refine Seq.p rfl Ev.assign ?_
      refine Seq.p rfl Ev.assign ?_
      refine Seq.nil ?_
      refine JC.rs ?_
      refine Seq.p rfl Ev.move ?_
      refine Seq.p rfl Ev.move ?_
      refine Seq.callP rfl (fun w hw => hn1 ▸ refNumber (RAt.up (RAt.own (enc := Tg.enc) (xs := (readF l).tags)) hw)) ?_
      refine Seq.p rfl Ev.move ?_
      refine Seq.p rfl Ev.extract ?_
      refine Seq.p rfl Ev.extract ?_
      refine Seq.p rfl Ev.assign ?_
      refine Seq.p rfl Ev.assign ?_
      refine Seq.nil ?_
      refine JC.rs ?_
      refine Seq.p rfl Ev.move ?_
      refine Seq.p rfl Ev.move ?_
      refine Seq.p rfl Ev.eqStr ?_
      refine Seq.p rfl Ev.move ?_
      refine Seq.andG (D := [107, 108, 109, 110, 111]) (d := 107) (t := 111) (k := 4) (hn := fun h107 => ?_) (hx := ?_)
      · repeat (first | refine Seq.gn rfl rfl rfl rfl ?_ | refine Seq.gu rfl rfl rfl ?_)
        refine Seq.p rfl Ev.pickF ?_
        exact Seq.nil ⟨rfl, (by repeat (first | with_reducible exact Off.refl | refine Off.upd ?_ rfl | exact Off.mix | refine Off.mix2 ?_ rfl)), Look.here⟩
      apply Exists.intro
      refine ⟨fun h107 => ?_, fun u111 => ?_⟩
      · try simp only [decide_eq_true_eq, decide_eq_false_iff_not, Bool.and_eq_true, Bool.or_eq_true, Bool.not_eq_true', Bool.not_eq_false', Bool.or_eq_false_iff, Bool.and_eq_false_imp] at h107
        refine Seq.gy rfl rfl rfl ?_
        refine Seq.p rfl Ev.move ?_
        refine Seq.gy rfl rfl rfl ?_
        refine Seq.p rfl Ev.move ?_
        refine Seq.gy rfl rfl rfl ?_
        refine Seq.p rfl (Ev.eqB bl.bool) ?_
        refine Seq.p rfl Ev.pickT ?_
        exact Seq.nil ⟨rfl, (by repeat (first | with_reducible exact Off.refl | refine Off.upd ?_ rfl | exact Off.mix | refine Off.mix2 ?_ rfl)), Look.here⟩
      refine Seq.p rfl Ev.move ?_
      refine Seq.andG (D := [112, 113, 114, 115, 116]) (d := 112) (t := 116) (k := 4) (hn := fun h112 => ?_) (hx := ?_)
      · repeat (first | refine Seq.gn rfl rfl rfl rfl ?_ | refine Seq.gu rfl rfl rfl ?_)
        refine Seq.p rfl Ev.pickF ?_
        exact Seq.nil ⟨rfl, (by repeat (first | with_reducible exact Off.refl | refine Off.upd ?_ rfl | exact Off.mix | refine Off.mix2 ?_ rfl)), Look.here⟩
      apply Exists.intro
      refine ⟨fun h112 => ?_, fun u116 => ?_⟩
      · try simp only [decide_eq_true_eq, decide_eq_false_iff_not, Bool.and_eq_true, Bool.or_eq_true, Bool.not_eq_true', Bool.not_eq_false', Bool.or_eq_false_iff, Bool.and_eq_false_imp] at h112
        refine Seq.gy rfl rfl rfl ?_
        refine Seq.p rfl Ev.move ?_
        refine Seq.gy rfl rfl rfl ?_
        refine Seq.p rfl Ev.move ?_
        refine Seq.gy rfl rfl rfl ?_
        refine Seq.p rfl Ev.eq ?_
        refine Seq.p rfl Ev.pickT ?_
        exact Seq.nil ⟨rfl, (by repeat (first | with_reducible exact Off.refl | refine Off.upd ?_ rfl | exact Off.mix | refine Off.mix2 ?_ rfl)), Look.here⟩
      refine Seq.p rfl Ev.move ?_
      refine Seq.andG (D := [117, 118, 119, 120, 121]) (d := 117) (t := 121) (k := 4) (hn := fun h117 => ?_) (hx := ?_)
      · repeat (first | refine Seq.gn rfl rfl rfl rfl ?_ | refine Seq.gu rfl rfl rfl ?_)
        refine Seq.p rfl Ev.pickF ?_
        exact Seq.nil ⟨rfl, (by repeat (first | with_reducible exact Off.refl | refine Off.upd ?_ rfl | exact Off.mix | refine Off.mix2 ?_ rfl)), Look.here⟩
      apply Exists.intro
      refine ⟨fun h117 => ?_, fun u121 => ?_⟩
      · try simp only [decide_eq_true_eq, decide_eq_false_iff_not, Bool.and_eq_true, Bool.or_eq_true, Bool.not_eq_true', Bool.not_eq_false', Bool.or_eq_false_iff, Bool.and_eq_false_imp] at h117
        refine Seq.gy rfl rfl rfl ?_
        refine Seq.p rfl Ev.move ?_
        refine Seq.gy rfl rfl rfl ?_
        refine Seq.p rfl Ev.move ?_
        refine Seq.gy rfl rfl rfl ?_
        refine Seq.p rfl Ev.eq ?_
        refine Seq.p rfl Ev.pickT ?_
        exact Seq.nil ⟨rfl, (by repeat (first | with_reducible exact Off.refl | refine Off.upd ?_ rfl | exact Off.mix | refine Off.mix2 ?_ rfl)), Look.here⟩
      refine Seq.p rfl Ev.move ?_
      refine Seq.andG (D := [122, 123, 124, 125]) (d := 122) (t := 125) (k := 3) (hn := fun h122 => ?_) (hx := ?_)
      · repeat (first | refine Seq.gn rfl rfl rfl rfl ?_ | refine Seq.gu rfl rfl rfl ?_)
        refine Seq.p rfl Ev.pickF ?_
        exact Seq.nil ⟨rfl, (by repeat (first | with_reducible exact Off.refl | refine Off.upd ?_ rfl | exact Off.mix | refine Off.mix2 ?_ rfl)), Look.here⟩
      apply Exists.intro
      refine ⟨fun h122 => ?_, fun u125 => ?_⟩
      · try simp only [decide_eq_true_eq, decide_eq_false_iff_not, Bool.and_eq_true, Bool.or_eq_true, Bool.not_eq_true', Bool.not_eq_false', Bool.or_eq_false_iff, Bool.and_eq_false_imp] at h122
        refine Seq.gy rfl rfl rfl ?_
        refine Seq.callP rfl (fun w hw => hd7 w (hL.upd hw)) ?_
        refine Seq.gy rfl rfl rfl ?_
        refine Seq.p rfl Ev.eqStr ?_
        refine Seq.p rfl Ev.pickT ?_
        exact Seq.nil ⟨rfl, (by repeat (first | with_reducible exact Off.refl | refine Off.upd ?_ rfl | exact Off.mix | refine Off.mix2 ?_ rfl)), Look.here⟩
      refine Seq.p rfl Ev.assign ?_
      refine Seq.nil ?_
      refine JC.ret ?_
      -- return 0
      show retQ _ _ _ _ _ _ _ _
      refine ret1 (hp := Part.nil _) (hpost := ?_)
      simp
end Go.Rx
/- What Encode makes, as a plain function; Decode of it, and it of what was decoded. -/
namespace Go.Rx
open Go Go.RowKit Go.Lib Go.Proofs.YtcggppjpnepoiaaDoor
set_option linter.unusedVariables false
set_option linter.unusedSimpArgs false
/-- A number's digits. -/
def decL (n : Nat) : List Int := (decDigits n).map fun c => (c.toNat : Int)
/-- A field without its end. -/
def fldL (n : Nat) (v : ByteArray) : List Int := decL n ++ 61 :: bytesOf v
def fieldL (n : Nat) (v : ByteArray) : List Int := fldL n v ++ [1]
def bodyL (kind : ByteArray) (xs : List Tg) : List Int := fieldL 35 kind ++ xs.flatMap fun t => fieldL t.tag.toNat t.value
/-- Why a list of fields can't be; 0: it can. -/
def encE : List Tg → List Tg → Int
  | _, [] => 0
  | seen, t :: r => if refusedF seen t ≠ 0 then refusedF seen t else encE (seen ++ [t]) r
def frontL (kind : ByteArray) (xs : List Tg) : List Int := beginL ++ decL (bodyL kind xs).length ++ [1] ++ bodyL kind xs
def lineL (kind : ByteArray) (xs : List Tg) : List Int := frontL kind xs ++ lastL (frontL kind xs)
def encF (kind : ByteArray) (xs : List Tg) : Int × List Int :=
  if kindB kind = false then (3, [])
  else if 64 < xs.length then (2, [])
  else if encE [] xs ≠ 0 then (encE [] xs, [])
  else if 2048 < (lineL kind xs).length then (2, [])
  else (0, lineL kind xs)
theorem decL_digit (n : Nat) : ∀ c ∈ decL n, 48 ≤ c ∧ c ≤ 57 := by
  intro c hc
  obtain ⟨x, hx, rfl⟩ := List.mem_map.1 hc
  have := dec_digits n x hx
  omega
theorem decL_len (n : Nat) : (decL n).length = nDigits n := by
  unfold decL
  rw [List.length_map]
  exact decDigits_length n
theorem decL_pos (n : Nat) : 0 < (decL n).length := by
  rw [decL_len]
  exact nDigits_pos n
theorem decL_bytes (n : Nat) : isBytes (decL n) := fun c hc => by
  have := decL_digit n c hc
  omega
theorem strOf_dec (n : Nat) : strOf (decL n) = decS n := by
  apply ba_ext
  rw [strOf_toList, decS_list]
  unfold decL
  rw [List.map_map]
  conv => rhs; rw [← List.map_id (decDigits n)]
  apply List.map_congr_left
  intro c hc
  simp
theorem decL_of {F : List Int} {n : Nat} (hB : isBytes F) (h : natF (strOf F) = some n) : F = decL n := by
  rw [natF_eq] at h
  have h1 := (numOf_some h).1
  rw [← strOf_dec] at h1
  exact (strOf_inj hB (decL_bytes n)).1 h1
theorem natF_dec {n : Nat} (h : n ≤ 18446744073709551615) : natF (strOf (decL n)) = some n := by
  rw [strOf_dec, natF_eq]
  exact numOf_dec h
theorem decL_four {n : Nat} (h : n < 10000) : (decL n).length ≤ 4 := by
  have e : ∀ k : Nat, k < 10 → (decDigits k).length = 1 := fun k hk => by rw [decDigits_one hk]; rfl
  have s : ∀ k : Nat, ¬ k < 10 → (decDigits k).length = (decDigits (k / 10)).length + 1 := fun k hk => by
    rw [decDigits, dif_neg hk, List.length_append]
    rfl
  have key : ∀ m k : Nat, k < 10 ^ (m + 1) → (decDigits k).length ≤ m + 1 := by
    intro m
    induction m with
    | zero => intro k hk; rw [e k (by simpa using hk)]; exact Nat.le_refl _
    | succ m ih =>
      intro k hk
      by_cases h1 : k < 10
      · rw [e k h1]; omega
      · rw [s k h1]
        have := ih (k / 10) (by rw [Nat.pow_succ] at hk; omega)
        omega
  unfold decL
  rw [List.length_map]
  exact key 3 n (by simpa using h)
theorem decL_big {n : Nat} (h : 10000 ≤ n) : 5 ≤ (decL n).length := by
  rcases Nat.lt_or_ge 4 (decL n).length with h1 | h1
  · exact h1
  · exfalso
    have e1 : natF (strOf (decL n)) = some n ∨ 18446744073709551615 < n := by
      rcases Nat.lt_or_ge 18446744073709551615 n with h2 | h2
      · exact .inr h2
      · exact .inl (natF_dec h2)
    rcases e1 with h2 | h2
    · have h3 := natF_lt h2
      rw [strOf_size] at h3
      have h4 : (10 : Nat) ^ (decL n).length ≤ 10 ^ 4 := Nat.pow_le_pow_right (by decide) h1
      omega
    · have s : ∀ k : Nat, ¬ k < 10 → (decDigits k).length = (decDigits (k / 10)).length + 1 := fun k hk => by
        rw [decDigits, dif_neg hk, List.length_append]
        rfl
      have e2 : (decL n).length = (decDigits n).length := by unfold decL; rw [List.length_map]
      have h5 := s n (by omega)
      have h6 := s (n / 10) (by omega)
      have h7 := s (n / 10 / 10) (by omega)
      have h8 := s (n / 10 / 10 / 10) (by omega)
      have h9 := s (n / 10 / 10 / 10 / 10) (by omega)
      omega
theorem firstF_app {c : Int} {a b : List Int} (h : ∀ x ∈ a, x ≠ c) : firstF c (a ++ c :: b) = a.length := by
  induction a with
  | nil => exact if_pos rfl
  | cons x r ih =>
    have e : firstF c (x :: r ++ c :: b) = firstF c (r ++ c :: b) + 1 := if_neg (h x (List.mem_cons_self ..))
    rw [e, ih (fun y hy => h y (List.mem_cons_of_mem _ hy))]
    rfl
theorem fld_len (n : Nat) (v : ByteArray) : (fldL n v).length = (decL n).length + 1 + v.size := by
  unfold fldL
  rw [List.length_append, List.length_cons, bytesOf_length]
  omega
theorem field_len (n : Nat) (v : ByteArray) : (fieldL n v).length = (decL n).length + 2 + v.size := by
  unfold fieldL
  rw [List.length_append, fld_len]
  simp
  omega
theorem fld_first (n : Nat) (v : ByteArray) : firstF 61 (fldL n v) = (decL n).length := firstF_app fun x hx => by
  have := decL_digit n x hx
  omega
theorem fld_value (n : Nat) (v : ByteArray) : fieldV (fldL n v) = v := by
  unfold fieldV
  rw [fld_first]
  unfold fldL
  rw [← List.drop_drop, List.drop_left]
  exact strOf_bytes v
theorem fld_num {n : Nat} (v : ByteArray) (h : n < 10000) : fieldN (fldL n v) = some n := by
  unfold fieldN
  rw [fld_first, if_pos ⟨by rw [fld_len]; omega, decL_four h⟩]
  unfold fldL
  rw [List.take_left]
  exact natF_dec (by omega)
theorem value_no1 {v : ByteArray} (h : valueB v = true) : ∀ x ∈ bytesOf v, x ≠ 1 := by
  intro x hx
  unfold valueB at h
  rw [Bool.and_eq_true] at h
  have := List.all_eq_true.1 h.2 x hx
  unfold printB at this
  simp only [Bool.and_eq_true, decide_eq_true_eq] at this
  omega
theorem kind_no1 {v : ByteArray} (h : kindB v = true) : ∀ x ∈ bytesOf v, x ≠ 1 := by
  intro x hx
  unfold kindB at h
  rw [Bool.and_eq_true] at h
  have := List.all_eq_true.1 h.2 x hx
  unfold alnum at this
  simp only [Bool.and_eq_true, Bool.or_eq_true, decide_eq_true_eq] at this
  omega
theorem fld_no1 {n : Nat} {v : ByteArray} (h : ∀ x ∈ bytesOf v, x ≠ 1) : ∀ x ∈ fldL n v, x ≠ 1 := by
  intro x hx
  unfold fldL at hx
  rcases List.mem_append.1 hx with hx | hx
  · have := decL_digit n x hx; omega
  · rcases List.mem_cons.1 hx with rfl | hx
    · decide
    · exact h x hx
theorem field_at {l rest : List Int} {p n : Nat} {v : ByteArray} (hd : l.drop p = fieldL n v ++ rest) (h : ∀ x ∈ bytesOf v, x ≠ 1) : firstF 1 (l.drop p) = (fldL n v).length ∧ fieldAt l p = fldL n v := by
  have h1 : firstF 1 (l.drop p) = (fldL n v).length := by
    rw [hd]
    unfold fieldL
    rw [List.append_assoc]
    exact firstF_app (fld_no1 h)
  refine ⟨h1, ?_⟩
  unfold fieldAt
  rw [h1, hd]
  unfold fieldL
  rw [List.append_assoc, List.take_left]
theorem refused_ok {xs : List Tg} {t : Tg} (h : refusedF xs t = 0) : tagB t.tag = true ∧ thereB xs t.tag = false ∧ valueB t.value = true := by
  unfold refusedF at h
  split at h
  · cases h
  · rename_i h1
    split at h
    · cases h
    · rename_i h2
      simp only [Bool.or_eq_true, Bool.not_eq_true', not_or] at h1 h2
      exact ⟨by simpa using h1.1, by simpa using h1.2, by simpa using h2⟩
theorem tag_range {n : Int} (h : tagB n = true) : ((n.toNat : Nat) : Int) = n ∧ n.toNat < 10000 ∧ 1 ≤ n.toNat := by
  unfold tagB at h
  simp only [Bool.and_eq_true, decide_eq_true_eq] at h
  omega
/-- What is encoded is read field by field. -/
theorem parts_enc {l : List Int} {f : Nat} {kind : ByteArray} : ∀ (ys seen : List Tg) (p : Nat) (tail : List Int), l.drop p = (ys.flatMap fun t => fieldL t.tag.toNat t.value) ++ tail → f < p → encE seen ys = 0 → (seen ++ ys).length ≤ 64 →
    partsF l f (p + (ys.flatMap fun t => fieldL t.tag.toNat t.value).length) p kind seen = .ok kind (seen ++ ys)
  | [], seen, p, tail, hd, hf, he, hl => by
    rw [partsF_end (by simp)]
    rw [List.append_nil]
  | t :: r, seen, p, tail, hd, hf, he, hl => by
    have hr : refusedF seen t = 0 := by
      unfold encE at he
      by_cases h : refusedF seen t ≠ 0
      · rw [if_pos h] at he; exact absurd he h
      · exact Classical.not_not.1 h
    have he2 : encE (seen ++ [t]) r = 0 := by
      unfold encE at he
      rwa [if_neg (fun h => h hr)] at he
    obtain ⟨h1, h2, h3⟩ := refused_ok hr
    obtain ⟨g1, g2, g3⟩ := tag_range h1
    rw [List.flatMap_cons, List.append_assoc] at hd
    obtain ⟨a1, a2⟩ := field_at hd (value_no1 h3)
    have hlen := field_len t.tag.toNat t.value
    have hfl := fld_len t.tag.toNat t.value
    have htk : takeF (fieldAt l p) (decide (p = f)) kind seen = (0, kind, seen ++ [t]) := by
      rw [decide_eq_false (by omega), a2, takeF_next (fld_num _ g2), fld_value, g1]
      rw [if_neg (by simp at hl; omega), if_neg (fun h => h hr)]
    have hto : p + ((t :: r).flatMap fun t => fieldL t.tag.toNat t.value).length = p + (fldL t.tag.toNat t.value).length + 1 + (r.flatMap fun t => fieldL t.tag.toNat t.value).length := by
      rw [List.flatMap_cons, List.length_append]
      omega
    have hlt : p < p + (fldL t.tag.toNat t.value).length + 1 + (r.flatMap fun t => fieldL t.tag.toNat t.value).length := by omega
    rw [hto, partsF_step hlt htk, a1]
    have ih := parts_enc (l := l) (f := f) (kind := kind) r (seen ++ [t]) (p + (fldL t.tag.toNat t.value).length + 1) tail (by
      have e : p + (fldL t.tag.toNat t.value).length + 1 = p + (fieldL t.tag.toNat t.value).length := by omega
      rw [e, ← List.drop_drop, hd, List.drop_left]) (by omega) he2 (by simpa using hl)
    rw [List.append_assoc] at ih
    exact ih
theorem preF_full {l : List Int} : ∀ (k i : Nat), (∀ j, i ≤ j → j < i + k → j < l.length ∧ l[j]! = beginL[j]!) → preF l k i = i + k
  | 0, i, h => rfl
  | k + 1, i, h => by
    unfold preF
    rw [if_pos (h i (Nat.le_refl _) (by omega)), preF_full k (i + 1) (fun j h1 h2 => h j (by omega) (by omega))]
    omega
theorem preF_inv {l : List Int} : ∀ (k i : Nat), preF l k i = i + k → ∀ j, i ≤ j → j < i + k → j < l.length ∧ l[j]! = beginL[j]!
  | 0, i, h, j, h1, h2 => by omega
  | k + 1, i, h, j, h1, h2 => by
    unfold preF at h
    by_cases hc : i < l.length ∧ l[i]! = beginL[i]!
    · rw [if_pos hc] at h
      by_cases hj : j = i
      · rw [hj]; exact hc
      · exact preF_inv k (i + 1) (by omega) j (by omega) (by omega)
    · rw [if_neg hc] at h
      omega
theorem dgF_at {l : List Int} {d : Nat} : ∀ (k n : Nat), n ≤ d → d ≤ n + k → (∀ j, n ≤ j → j < d → 10 + j < l.length ∧ digit l[10 + j]! = true) → (d < n + k → ¬ (10 + d < l.length ∧ digit l[10 + d]! = true)) → dgF l k n = d
  | 0, n, h1, h2, h3, h4 => by
    show n = d
    omega
  | k + 1, n, h1, h2, h3, h4 => by
    unfold dgF
    by_cases hd : n = d
    · subst hd
      rw [if_neg (h4 (by omega))]
    · rw [if_pos (h3 n (Nat.le_refl _) (by omega))]
      exact dgF_at k (n + 1) (by omega) (by omega) (fun j a b => h3 j (by omega) b) (fun a => h4 (by omega))
theorem get_app_left {a b : List Int} {i : Nat} (h : i < a.length) : (a ++ b)[i]! = a[i]! := by
  rw [getElem!_pos (a ++ b) i (by rw [List.length_append]; omega), getElem!_pos a i h, List.getElem_append_left h]
theorem get_app_right {a b : List Int} {i : Nat} (h : i < b.length) : (a ++ b)[a.length + i]! = b[i]! := by
  rw [getElem!_pos (a ++ b) (a.length + i) (by rw [List.length_append]; omega), getElem!_pos b i h, List.getElem_append_right (by omega)]
  congr 1
  omega
theorem head_enc {m : Nat} {rest : List Int} (h : m < 10000) : headF (beginL ++ decL m ++ [1] ++ rest) = .ok (11 + (decL m).length) m := by
  have hd4 := decL_four h
  have hdp := decL_pos m
  generalize hl : beginL ++ decL m ++ [1] ++ rest = l
  have e1 : l = beginL ++ (decL m ++ ([1] ++ rest)) := by rw [← hl]; simp
  have hll : l.length = 10 + (decL m).length + 1 + rest.length := by
    rw [← hl]
    simp [beginL]
    omega
  have hb : ∀ j, j < 10 → l[j]! = beginL[j]! := fun j hj => by rw [e1]; exact get_app_left (by simpa [beginL] using hj)
  have hg : ∀ j, j < (decL m).length → l[10 + j]! = (decL m)[j]! := fun j hj => by
    have h1 := get_app_right (a := beginL) (b := decL m ++ ([1] ++ rest)) (i := j) (by rw [List.length_append]; omega)
    rw [e1]
    rw [get_app_left hj] at h1
    exact h1
  have h1 : l[10 + (decL m).length]! = 1 := by
    have h1 := get_app_right (a := beginL) (b := decL m ++ ([1] ++ rest)) (i := (decL m).length) (by simp)
    have h2 := get_app_right (a := decL m) (b := [1] ++ rest) (i := 0) (by simp)
    rw [e1]
    rw [Nat.add_zero] at h2
    rw [h2] at h1
    exact h1
  have hp : preF l 10 0 = 10 := preF_full 10 0 fun j _ hj => ⟨by omega, hb j (by omega)⟩
  have hdg : dgF l 5 0 = (decL m).length := by
    refine dgF_at 5 0 (by omega) (by omega) (fun j _ hj => ⟨by omega, ?_⟩) (fun _ => ?_)
    · rw [hg j hj, getElem!_pos _ j hj]
      have := decL_digit m _ (List.getElem_mem hj)
      unfold digit
      simp only [Bool.and_eq_true, decide_eq_true_eq]
      omega
    · rintro ⟨_, h2⟩
      rw [h1] at h2
      cases h2
  have hdr : (l.drop 10).take (decL m).length = decL m := by
    rw [e1]
    have : (beginL ++ (decL m ++ ([1] ++ rest))).drop 10 = decL m ++ ([1] ++ rest) := rfl
    rw [this, List.take_left]
  unfold headF
  rw [hp, if_neg (by omega), hdg, if_neg (by omega), hdr, natF_dec (by omega)]
  simp only
  rw [if_neg]
  rintro (h2 | h2)
  · omega
  · exact h2 h1
end Go.Rx
/- Decode of what was encoded, and Encode of what was decoded: the plain laws. -/
namespace Go.Rx
open Go Go.RowKit Go.Lib Go.Proofs.YtcggppjpnepoiaaDoor
set_option linter.unusedVariables false
set_option linter.unusedSimpArgs false
theorem encF_ok {kind : ByteArray} {xs : List Tg} {l : List Int} (h : encF kind xs = (0, l)) : kindB kind = true ∧ xs.length ≤ 64 ∧ encE [] xs = 0 ∧ (lineL kind xs).length ≤ 2048 ∧ l = lineL kind xs := by
  unfold encF at h
  split at h
  · cases h
  · rename_i h1
    split at h
    · cases h
    · rename_i h2
      split at h
      · rename_i h3
        exact absurd (Prod.mk.inj h).1 h3
      · rename_i h3
        split at h
        · cases h
        · rename_i h4
          exact ⟨by simpa using h1, by omega, Classical.not_not.1 h3, by omega, (Prod.mk.inj h).2.symm⟩
theorem flat_last : ∀ (xs : List Tg) (pre : List Int), ∃ x, (pre ++ [1]) ++ (xs.flatMap fun t => fieldL t.tag.toNat t.value) = x ++ [1]
  | [], pre => ⟨pre, by simp⟩
  | t :: r, pre => by
    obtain ⟨x, hx⟩ := flat_last r ((pre ++ [1]) ++ fldL t.tag.toNat t.value)
    refine ⟨x, ?_⟩
    rw [← hx]
    simp [fieldL, List.flatMap_cons]
theorem body_last (kind : ByteArray) (xs : List Tg) : ∃ x, bodyL kind xs = x ++ [1] := flat_last xs (fldL 35 kind)
theorem last_seven (l : List Int) : (lastL l).length = 7 := rfl
theorem trail_ok (l : List Int) : trailB (lastL l) = true := by
  have hs := sumB_range l
  show trailB [49, 48, 61, 48 + sumB l / 100, 48 + sumB l / 10 % 10, 48 + sumB l % 10, 1] = true
  rw [trailB_seven]
  unfold digit
  simp only [Bool.and_eq_true, decide_eq_true_eq]
  refine ⟨⟨⟨?_, ?_, ?_⟩, ?_⟩, ?_⟩
  all_goals first | omega | simp
theorem front_len (kind : ByteArray) (xs : List Tg) : (frontL kind xs).length = 11 + (decL (bodyL kind xs).length).length + (bodyL kind xs).length := by
  unfold frontL
  simp [beginL]
  omega
theorem line_len (kind : ByteArray) (xs : List Tg) : (lineL kind xs).length = 11 + (decL (bodyL kind xs).length).length + (bodyL kind xs).length + 7 := by
  unfold lineL
  rw [List.length_append, last_seven, front_len]
/-- What was encoded is decoded, whatever stands behind it. -/
theorem read_enc {kind : ByteArray} {xs : List Tg} {l : List Int} (h : encF kind xs = (0, l)) (behind : List Int) : readF (l ++ behind) = ⟨kind, xs, (l.length : Int), 0, l.length⟩ := by
  obtain ⟨hk, hx, he, hlen, rfl⟩ := encF_ok h
  have hll := line_len kind xs
  have hfl := front_len kind xs
  obtain ⟨y, hy⟩ := body_last kind xs
  have hm : (bodyL kind xs).length = y.length + 1 := by rw [hy]; simp
  have hbody : bodyL kind xs = fieldL 35 kind ++ xs.flatMap fun t => fieldL t.tag.toNat t.value := rfl
  have hblen : (bodyL kind xs).length = (fieldL 35 kind).length + (xs.flatMap fun t => fieldL t.tag.toNat t.value).length := by rw [hbody, List.length_append]
  generalize hd : (decL (bodyL kind xs).length).length = d at hll hfl
  generalize hfr : frontL kind xs = front at hfl
  have hL : lineL kind xs ++ behind = beginL ++ decL (bodyL kind xs).length ++ [1] ++ (bodyL kind xs ++ (lastL front ++ behind)) := by
    have hfe : front = beginL ++ decL (bodyL kind xs).length ++ [1] ++ bodyL kind xs := hfr.symm
    unfold lineL
    rw [hfr, hfe]
    simp only [List.append_assoc]
  have hhead := head_enc (m := (bodyL kind xs).length) (rest := bodyL kind xs ++ (lastL front ++ behind)) (by omega)
  rw [← hL, hd] at hhead
  have hL2 : lineL kind xs ++ behind = front ++ (lastL front ++ behind) := by
    unfold lineL
    rw [hfr]
    simp
  have hL3 : lineL kind xs ++ behind = (beginL ++ decL (bodyL kind xs).length ++ [1]) ++ (fieldL 35 kind ++ ((xs.flatMap fun t => fieldL t.tag.toNat t.value) ++ (lastL front ++ behind))) := by
    rw [hL, hbody]
    simp
  have hll2 : (lineL kind xs ++ behind).length = (lineL kind xs).length + behind.length := List.length_append
  generalize hLg : lineL kind xs ++ behind = L at hhead hL hL2 hL3 hll2
  generalize hmg : (bodyL kind xs).length = m at *
  have hfm : 11 + d + m = front.length := by omega
  have htake : L.take (11 + d + m) = front := by rw [hfm, hL2, List.take_left]
  have hdrop : (L.drop (11 + d + m)).take 7 = lastL front := by rw [hfm, hL2, List.drop_left, ← last_seven front, List.take_left]
  have h1 : L[11 + d + m - 1]! = 1 := by
    have e : front = (beginL ++ decL m ++ [1] ++ y) ++ [1] := by
      rw [← hfr]
      unfold frontL
      rw [hmg, hy]
      simp
    have h2 := get_app_right (a := beginL ++ decL m ++ [1] ++ y) (b := [1] ++ (lastL front ++ behind)) (i := 0) (by simp)
    have e2 : L = (beginL ++ decL m ++ [1] ++ y) ++ ([1] ++ (lastL front ++ behind)) := by
      rw [hL2, e]
      simp only [List.append_assoc]
    rw [← e2, Nat.add_zero] at h2
    have e3 : (beginL ++ decL m ++ [1] ++ y).length = 11 + d + m - 1 := by
      simp [beginL]
      omega
    rw [e3] at h2
    exact h2
  have hf35 := field_len 35 kind
  have hfld := fld_len 35 kind
  have hdf : L.drop (11 + d) = fieldL 35 kind ++ ((xs.flatMap fun t => fieldL t.tag.toNat t.value) ++ (lastL front ++ behind)) := by
    have e : (beginL ++ decL m ++ [1]).length = 11 + d := by
      simp [beginL]
      omega
    rw [hL3, ← e, List.drop_left]
  obtain ⟨a1, a2⟩ := field_at hdf (kind_no1 hk)
  have htk : takeF (fieldAt L (11 + d)) (decide (11 + d = 11 + d)) ⟨#[]⟩ [] = (0, kind, []) := by
    rw [decide_eq_true rfl, a2, takeF_first (fld_num kind (by decide)), fld_value, if_neg]
    rintro (h | h)
    · exact h rfl
    · rw [hk] at h; cases h
  have hparts : partsF L (11 + d) (11 + d + m) (11 + d) ⟨#[]⟩ [] = .ok kind xs := by
    rw [partsF_step (by omega) htk, a1]
    have h3 := parts_enc (l := L) (f := 11 + d) (kind := kind) xs [] (11 + d + (fldL 35 kind).length + 1) (lastL front ++ behind) (by
      rw [show 11 + d + (fldL 35 kind).length + 1 = 11 + d + (fieldL 35 kind).length by omega, ← List.drop_drop, hdf, List.drop_left]) (by omega) he (by simpa using hx)
    rw [List.nil_append] at h3
    rw [show 11 + d + m = 11 + d + (fldL 35 kind).length + 1 + (xs.flatMap fun t => fieldL t.tag.toNat t.value).length by omega]
    exact h3
  have hcc : ¬ (trailB ((L.drop (11 + d + m)).take 7) = false ∨ m = 0 ∨ L[11 + d + m - 1]! ≠ 1) := by
    rw [hdrop, trail_ok]
    rintro (h | h | h)
    · cases h
    · omega
    · exact h h1
  rw [readF_parts hhead (by omega) (by omega) hcc (by rw [hdrop, htake]; exact fun h => h rfl), hparts]
  unfold partA
  rw [hll]
theorem fieldN_inv {F : List Int} {n : Nat} (hB : isBytes F) (h : fieldN F = some n) : F = fldL n (fieldV F) ∧ n < 10000 := by
  unfold fieldN at h
  split at h
  · rename_i hc
    have h1 := decL_of (isBytes_take hB) h
    have h2 := firstF_get hc.1
    refine ⟨?_, ?_⟩
    · unfold fldL fieldV
      rw [bytesOf_str (isBytes_drop hB), ← h1]
      conv => lhs; rw [← List.take_append_drop (firstF 61 F) F]
      congr 1
      rw [List.drop_eq_getElem_cons hc.1]
      congr 1
      rw [getElem!_pos F _ hc.1] at h2
      exact h2
    · have h3 := natF_lt h
      rw [strOf_size] at h3
      have h4 : (F.take (firstF 61 F)).length ≤ 4 := by rw [List.length_take]; omega
      exact Nat.lt_of_lt_of_le h3 (Nat.pow_le_pow_right (by decide) h4)
  · cases h
theorem split_field {l : List Int} {p r : Nat} (h : p + firstF 1 (l.drop p) < l.length) : (l.drop p).take (firstF 1 (l.drop p) + 1 + r) = fieldAt l p ++ [1] ++ (l.drop (p + firstF 1 (l.drop p) + 1)).take r := by
  have hlt : firstF 1 (l.drop p) < (l.drop p).length := by rw [List.length_drop]; omega
  have h2 := firstF_get hlt
  rw [List.take_add, List.take_add]
  unfold fieldAt
  congr 1
  · congr 1
    rw [List.drop_eq_getElem_cons hlt]
    rw [getElem!_pos (l.drop p) (firstF 1 (l.drop p)) hlt] at h2
    rw [h2]
    rfl
  · rw [List.drop_drop]
    congr 2
theorem parts_inv {l : List Int} {f to : Nat} {kind' : ByteArray} {ys : List Tg} (hB : isBytes l) (ht : to ≤ l.length) (h1 : l[to - 1]! = 1) : ∀ {p : Nat} {kind : ByteArray} {xs : List Tg}, f < p → p ≤ to → xs.length ≤ 64 → partsF l f to p kind xs = .ok kind' ys →
    kind' = kind ∧ ∃ zs, ys = xs ++ zs ∧ (l.drop p).take (to - p) = (zs.flatMap fun t => fieldL t.tag.toNat t.value) ∧ encE xs zs = 0 ∧ ys.length ≤ 64 := by
  intro p kind xs hf hp hx h
  generalize hd : to - p = d
  induction d using Nat.strongRecOn generalizing p kind xs with
  | _ d ih =>
    by_cases hlt : p < to
    · have hin := first_in hlt ht h1
      rcases htk : takeF (fieldAt l p) (decide (p = f)) kind xs with ⟨e, k1, xs1⟩
      by_cases he : e = 0
      · subst he
        rw [partsF_step hlt htk] at h
        rw [decide_eq_false (by omega)] at htk
        cases hN : fieldN (fieldAt l p) with
        | none => rw [takeF_none hN] at htk; cases htk
        | some n =>
          rw [takeF_next hN] at htk
          by_cases h64 : xs.length = 64
          · rw [if_pos h64] at htk; cases htk
          · rw [if_neg h64] at htk
            by_cases hr : refusedF xs ⟨n, fieldV (fieldAt l p)⟩ ≠ 0
            · rw [if_pos hr] at htk
              exact absurd (Prod.mk.inj htk).1 hr
            · rw [if_neg hr] at htk
              cases htk
              obtain ⟨g1, zs, g2, g3, g4, g5⟩ := ih (to - (p + firstF 1 (l.drop p) + 1)) (by omega) (by omega) (by omega) (by simp; omega) h rfl
              refine ⟨g1, ⟨n, fieldV (fieldAt l p)⟩ :: zs, by rw [g2]; simp, ?_, ?_, g5⟩
              · rw [show d = firstF 1 (l.drop p) + 1 + (to - (p + firstF 1 (l.drop p) + 1)) by omega, split_field (by omega), g3, List.flatMap_cons]
                congr 1
                unfold fieldL
                show _ = fldL ((n : Int).toNat) (fieldV (fieldAt l p)) ++ [1]
                rw [Int.toNat_natCast]
                congr 1
                exact (fieldN_inv (isBytes_take (isBytes_drop hB)) hN).1
              · unfold encE
                rw [if_neg hr]
                exact g4
      · rw [partsF_bad hlt htk he] at h
        cases h
    · rw [partsF_end hlt] at h
      cases h
      refine ⟨rfl, [], by simp, ?_, rfl, hx⟩
      rw [show d = 0 by omega]
      rfl
theorem head_inv {l : List Int} {f k : Nat} (hB : isBytes l) (h : headF l = .ok f k) : l.take f = beginL ++ decL k ++ [1] ∧ f = 11 + (decL k).length ∧ f ≤ l.length := by
  have hpl := preF_le l 10 0
  have hgl := dgF_le l 5 0
  unfold headF at h
  split at h
  · split at h <;> cases h
  · rename_i h1
    have hp : preF l 10 0 = 10 := by omega
    have hinv := preF_inv 10 0 (by rw [hp])
    split at h
    · cases h
    · rename_i h2
      split at h
      · rename_i q hq
        split at h
        · cases h
        · rename_i h3
          cases h
          have h4 : l[10 + dgF l 5 0]! = 1 := Classical.not_not.1 fun h => h3 (.inr h)
          have h10 : 10 ≤ l.length := by have := (hinv 9 (by omega) (by omega)).1; omega
          have hdl := dgF_len l 5 0 (by omega)
          have hlt : 10 + dgF l 5 0 < l.length := by omega
          have hdec := decL_of (isBytes_take (isBytes_drop hB)) hq
          have hlen : (decL k).length = dgF l 5 0 := by rw [← hdec, List.length_take, List.length_drop]; omega
          refine ⟨?_, by omega, by omega⟩
          have e10 : l.take 10 = beginL := by
            apply List.ext_getElem
            · rw [List.length_take]
              show min 10 l.length = 10
              omega
            · intro i ha hb
              obtain ⟨h5, h6⟩ := hinv i (by omega) (by rw [List.length_take] at ha; omega)
              rw [getElem!_pos l i h5, getElem!_pos beginL i hb] at h6
              rw [List.getElem_take]
              exact h6
          rw [getElem!_pos l _ hlt] at h4
          rw [show 11 + dgF l 5 0 = 10 + dgF l 5 0 + 1 by omega, List.take_succ_eq_append_getElem hlt, List.take_add, e10, hdec, h4]
      · cases h
theorem readF_ok_parts {l : List Int} (h : (readF l).why = 0) : ∃ f k kind xs, headF l = .ok f k ∧ ¬ 2048 < f + k + 7 ∧ ¬ l.length < f + k + 7 ∧ ¬ (trailB ((l.drop (f + k)).take 7) = false ∨ k = 0 ∨ l[f + k - 1]! ≠ 1) ∧ (l.drop (f + k)).take 7 = lastL (l.take (f + k)) ∧
    partsF l f (f + k) f ⟨#[]⟩ [] = .ok kind xs ∧ readF l = ⟨kind, xs, ((f + k + 7 : Nat) : Int), 0, f + k + 7⟩ := by
  cases hh : headF l with
  | bad a c => rw [readF_bad hh] at h; exact absurd h (head_why hh)
  | ok f k =>
    by_cases h1 : 2048 < f + k + 7
    · rw [readF_long hh h1] at h; cases h
    · by_cases h2 : l.length < f + k + 7
      · rw [readF_short hh h1 h2] at h; cases h
      · by_cases h3 : trailB ((l.drop (f + k)).take 7) = false ∨ k = 0 ∨ l[f + k - 1]! ≠ 1
        · rw [readF_body hh h1 h2 h3] at h; cases h
        · by_cases h4 : (l.drop (f + k)).take 7 ≠ lastL (l.take (f + k))
          · rw [readF_trail hh h1 h2 h3 h4] at h; cases h
          · have hr := readF_parts hh h1 h2 h3 h4
            cases hp : partsF l f (f + k) f ⟨#[]⟩ [] with
            | bad p e => rw [hr, hp] at h; exact absurd h (partsF_why hp)
            | ok kind xs =>
              rw [hp] at hr
              exact ⟨f, k, kind, xs, rfl, h1, h2, h3, Classical.not_not.1 h4, hp, hr⟩
/-- What was decoded is the one form of it. -/
theorem read_inv {l : List Int} (hB : isBytes l) (h : (readF l).why = 0) : encF (readF l).kind (readF l).tags = (0, l.take (readF l).size) ∧ 18 ≤ (readF l).size ∧ (readF l).size ≤ l.length := by
  obtain ⟨f, k, kind, xs, hh, h1, h2, h3, h4, hp, hr⟩ := readF_ok_parts h
  obtain ⟨q1, q2, q3⟩ := head_inv hB hh
  have hk0 : k ≠ 0 := fun h => h3 (.inr (.inl h))
  have hb1 : l[f + k - 1]! = 1 := Classical.not_not.1 fun h => h3 (.inr (.inr h))
  have hlt : f < f + k := by omega
  have hin := first_in hlt (by omega) hb1
  have hdp := decL_pos k
  rw [hr]
  refine ⟨?_, by show 18 ≤ f + k + 7; omega, by show f + k + 7 ≤ l.length; omega⟩
  show encF kind xs = (0, l.take (f + k + 7))
  rcases htk : takeF (fieldAt l f) (decide (f = f)) ⟨#[]⟩ [] with ⟨e, k1, xs1⟩
  have he : e = 0 := by
    by_cases he : e = 0
    · exact he
    · rw [partsF_bad hlt htk he] at hp; cases hp
  subst he
  rw [partsF_step hlt htk] at hp
  rw [decide_eq_true rfl] at htk
  cases hN : fieldN (fieldAt l f) with
  | none => rw [takeF_none hN] at htk; cases htk
  | some n =>
    rw [takeF_first hN] at htk
    by_cases hc : n ≠ 35 ∨ kindB (fieldV (fieldAt l f)) = false
    · rw [if_pos hc] at htk; cases htk
    · rw [if_neg hc] at htk
      cases htk
      obtain ⟨g1, zs, g2, g3, g4, g5⟩ := parts_inv hB (by omega) hb1 (by omega) (by omega) (Nat.zero_le _) hp
      rw [List.nil_append] at g2
      subst g2
      have hn : n = 35 := Classical.not_not.1 fun h => hc (.inl h)
      have hkb : kindB (fieldV (fieldAt l f)) = true := by
        cases hq : kindB (fieldV (fieldAt l f)) with
        | true => rfl
        | false => exact absurd (.inr hq) hc
      have hfi : fieldAt l f = fldL n (fieldV (fieldAt l f)) := (fieldN_inv (isBytes_take (isBytes_drop hB)) hN).1
      have hbody : (l.drop f).take k = bodyL kind xs := by
        rw [show k = firstF 1 (l.drop f) + 1 + (f + k - (f + firstF 1 (l.drop f) + 1)) by omega, split_field (by omega), g3]
        unfold bodyL fieldL
        rw [← hn, g1, ← hfi]
      have hbl : (bodyL kind xs).length = k := by rw [← hbody, List.length_take, List.length_drop]; omega
      have hfront : l.take (f + k) = frontL kind xs := by
        rw [List.take_add, q1, hbody]
        unfold frontL
        rw [hbl]
      have hline : l.take (f + k + 7) = lineL kind xs := by
        rw [List.take_add, h4, hfront]
        rfl
      have hll : (lineL kind xs).length = f + k + 7 := by rw [← hline, List.length_take]; omega
      unfold encF
      rw [if_neg (by rw [g1, hkb]; decide), if_neg (by omega), if_neg (fun h => h g4), if_neg (by omega), hline]
end Go.Rx
/- The program's Encode. -/
namespace Go.Rx
open Go Go.RowKit Go.Lib Go.Proofs.YtcggppjpnepoiaaDoor
set_option linter.unusedVariables false
set_option linter.unusedSimpArgs false
structure Sb where
  v : Value
  l : List Int
deriving Inhabited
def Sb.enc (p : Sb) : List Value := [p.v]
theorem get_memS {α : Type} [Inhabited α] {xs : List α} {i : Nat} (h : i < xs.length) : xs[i]! ∈ xs := by
  rw [getElem!_pos xs i h]
  exact List.getElem_mem _
theorem flat_take {α : Type} [Inhabited α] (f : α → List Int) {xs : List α} {i : Nat} (h : i < xs.length) : (xs.take (i + 1)).flatMap f = (xs.take i).flatMap f ++ f xs[i]! := by
  rw [List.take_succ_eq_append_getElem h, List.flatMap_append, getElem!_pos xs i h]
  simp
theorem flat_le {α : Type} (f : α → List Int) (xs : List α) (i : Nat) : ((xs.take i).flatMap f).length ≤ (xs.flatMap f).length := by
  conv => rhs; rw [← List.take_append_drop i xs, List.flatMap_append, List.length_append]
  omega
theorem bytesOf_app (a b : ByteArray) : bytesOf (a ++ b) = bytesOf a ++ bytesOf b := by
  unfold bytesOf
  rw [ByteArray.data_append, Array.toList_append, List.map_append]
theorem bytesOf_dec (n : Nat) : bytesOf (decS n) = decL n := by
  unfold bytesOf decL
  rw [decS_list]
set_option maxHeartbeats 1000000 in
set_option maxRecDepth 100000 in
theorem growNilB {w : World} {m : Nat} (hm : m ≤ 140737488355328) : Spec Go.Proofs.Tryd.prog 62 #[.slice none 0 0, .int .i64 (m : Int)] w [] (fun u N => ∃ A c, u = .slice A 0 c ∧ N = [bytesC (.slice A 0 c) []]) := by
  refine Spec.enter (fn := Go.Proofs.Tryd.f62) (n := 27) [.slice none 0 0, .int .i64 (m : Int)] Go.Proofs.Tryd.func62 (by kernel_rfl) rfl Go.Proofs.Tryd.ntmps62 Go.Proofs.Tryd.results62 rfl (Own.nil _) ?_
  refine JC.rs ?_
  refine Seq.p rfl Ev.assign ?_
  refine Seq.nil ?_
  refine JC.seq ?_
  refine JC.rs ?_
  refine Seq.p rfl Ev.move ?_
  refine Seq.p rfl Ev.lt ?_
  refine Seq.nil ?_
  first | refine JC.c (ht := fun c6 => ?_) (hf := fun c6 => ?_) | refine JC.cb (ht := fun c6 => ?_) (hf := fun c6 => ?_)
  · -- then_t6
    exfalso; omega
  · -- else_t6
    refine JC.skip ?_
    refine JC.seq ?_
    refine JC.rs ?_
    refine Seq.p rfl Ev.move ?_
    refine Seq.p rfl Ev.move ?_
    refine Seq.p rfl (Ev.capSl sl.sl_uint8) ?_
    refine Seq.p rfl Ev.move ?_
    refine Seq.p rfl (Ev.lenSl sl.sl_uint8 (hr := (RSl.empty byteEnc 1 _ []).r)) ?_
    refine Seq.p rfl (Ev.sub (h := by decide)) ?_
    have e1 : ((0 : Nat) : Int) - ((List.length ([] : List Int) : Nat) : Int) = 0 := rfl
    rw [e1]
    refine Seq.p rfl (Ev.sub) ?_
    rw [Int.sub_zero]
    refine Seq.p rfl Ev.assign ?_
    refine Seq.nil ?_
    refine JC.rs ?_
    refine Seq.p rfl Ev.move ?_
    refine Seq.p rfl Ev.gt ?_
    refine Seq.nil ?_
    first | refine JC.c (ht := fun c16 => ?_) (hf := fun c16 => ?_) | refine JC.cb (ht := fun c16 => ?_) (hf := fun c16 => ?_)
    · -- then_t16
      refine JC.reg ?_
      refine Seq.p rfl Ev.move ?_
      refine Seq.p rfl Ev.move ?_
      refine Seq.p rfl (Ev.capSl sl.sl_uint8) ?_
      refine Seq.p rfl (Ev.cutHi (h := 0) sl.sl_uint8) ?_
      refine Seq.p rfl Ev.move ?_
      refine Seq.growNil (m := m) (hsl := sl.sl_uint8) (he := el.uint8) (hi := it.int) (kk := ?_); intro b22 c22 zs
      refine Seq.p rfl Ev.move ?_
      refine Seq.p rfl (Ev.lenSl sl.sl_uint8 (hr := (RSl.empty byteEnc 1 _ []).r)) ?_
      refine Seq.p rfl (Ev.cutHi (h := 0) sl.sl_uint8) ?_
      refine Seq.re (fun w h => Upd.own0 h At.z) ?_
      refine Seq.p rfl Ev.assign ?_
      refine Seq.nil ?_
      refine JC.rs ?_
      refine Seq.p rfl Ev.move ?_
      refine Seq.p rfl Ev.assign ?_
      refine Seq.nil ?_
      refine JC.ret ?_
      -- return 0
      show retQ _ _ _ _ _ _ _ _
      refine ret1 (hp := Part.refl _) (hpost := ?_)
      exact ⟨_, _, rfl, rfl⟩
    · -- else_t16
      obtain rfl : m = 0 := by omega
      refine JC.re (fun w h => Upd.nilOwn h 5 1) ?_
      refine JC.skip ?_
      refine JC.rs ?_
      refine Seq.p rfl Ev.move ?_
      refine Seq.p rfl Ev.assign ?_
      refine Seq.nil ?_
      refine JC.ret ?_
      -- return 1
      show retQ _ _ _ _ _ _ _ _
      refine ret1 (hp := Part.refl _) (hpost := ?_)
      exact ⟨_, _, rfl, rfl⟩
set_option maxHeartbeats 1000000 in
set_option maxRecDepth 100000 in
theorem concatBytes {w : World} {v : Value} {ps : List Sb} (hr : RSl Sb.enc 1 w [] v ps) (hp : ∀ p ∈ ps, RSl byteEnc 1 w [] p.v p.l) (hs : (ps.flatMap (·.l)).length ≤ 70368744177664) :
    Spec Go.Proofs.Tryd.prog 40 #[v] w [] (fun u H' => ∃ A c, u = .slice A (ps.flatMap (·.l)).length c ∧ H' = [bytesC (.slice A (ps.flatMap (·.l)).length c) (ps.flatMap (·.l))]) := by
  have hsm := hr.small
  refine Spec.enter (fn := Go.Proofs.Tryd.f40) (n := 36) [v] Go.Proofs.Tryd.func40 (by kernel_rfl) rfl Go.Proofs.Tryd.ntmps40 Go.Proofs.Tryd.results40 rfl (Own.nil _) ?_
  refine JC.rs ?_
  refine Seq.p rfl Ev.assign ?_
  refine Seq.nil ?_
  refine JC.rs ?_
  refine Seq.p rfl Ev.assign ?_
  refine Seq.nil ?_
  refine JC.seq ?_
  refine JC.rs ?_
  refine Seq.p rfl Ev.move ?_
  refine Seq.p rfl (Ev.lenSl sl.sl_sl_uint8 (hr := hr.r)) ?_
  refine Seq.p rfl Ev.move ?_
  refine Seq.nil ?_
  refine JC.blk ?_
  refine JC.loop (α := Nat) (I := fun i e1 H1 => Has [3, 5, 11, 12, 13, 14, 15, 16, 17, 18, 19, 20, 21, 22] [(3, .int .i64 (((ps.take i).flatMap (·.l)).length : Int)), (11, .int .i64 (i : Int))] _ e1 ∧ H1 = _ ∧ i ≤ ps.length) (μ := fun i => ps.length - i) 0 ⟨Has.mk Off.refl (allLook_cons (by repeat (first | exact Look.here | apply Look.there (hne := rfl) | exact Look.const | apply Look.mix rfl | exact Look.arg0 | apply Look.args | exact Look.func)) (allLook_cons (by repeat (first | exact Look.here | apply Look.there (hne := rfl) | exact Look.const | apply Look.mix rfl | exact Look.arg0 | apply Look.args | exact Look.func)) allLook_nil)), rfl, by omega⟩ ?_
  rintro i _ _ ⟨⟨u, rfl⟩, rfl, hi⟩; dsimp only [setL]
  refine JC.rs ?_
  refine Seq.p rfl Ev.lt ?_
  refine Seq.nil ?_
  refine JC.seq ?_
  first | refine JC.c (ht := fun c12 => ?_) (hf := fun c12 => ?_) | refine JC.cb (ht := fun c12 => ?_) (hf := fun c12 => ?_)
  · -- then_t12
    have hi2 : i < ps.length := by omega
    have hft := flat_take (·.l) hi2
    have hfl := flat_le (·.l) ps (i + 1)
    have hfl2 := congrArg List.length hft
    rw [List.length_append] at hfl2
    have hpi := hp _ (get_memS hi2)
    refine JC.skip ?_
    refine JC.seq ?_
    refine JC.blk ?_
    refine JC.rs ?_
    refine Seq.p rfl (Ev.iaN sl.sl_sl_uint8 (hr := hr.r)) ?_
    refine Seq.p rfl (Ev.ldE1 sc.sl_uint8 (hr := hr.r)) ?_
    refine Seq.p rfl Ev.assign ?_
    refine Seq.nil ?_
    refine JC.rs ?_
    refine Seq.p rfl Ev.move ?_
    refine Seq.p rfl Ev.move ?_
    refine Seq.p rfl (Ev.lenSl sl.sl_uint8 (hr := hpi.r)) ?_
    refine Seq.p rfl (Ev.addN (m := ((ps.take i).flatMap (·.l)).length) (c := (ps[i]!).l.length)) ?_
    refine Seq.p rfl Ev.assign ?_
    refine Seq.nil ?_
    refine JC.rs ?_
    refine Seq.p rfl Ev.move ?_
    refine Seq.p rfl Ev.lt ?_
    refine Seq.nil ?_
    first | refine JC.c (ht := fun c20 => ?_) (hf := fun c20 => ?_) | refine JC.cb (ht := fun c20 => ?_) (hf := fun c20 => ?_)
    · -- then_t20
      exfalso; omega
    · -- else_t20
      refine JC.skip ?_
      refine JC.reg ?_
      refine Seq.p rfl (by first | exact Ev.inc | exact Ev.add) ?_
      refine Seq.p rfl Ev.move ?_
      refine Seq.nil ?_
      exact ⟨i + 1, _, Part.refl _, ⟨Has.mk (by repeat (first | refine Off.upd ?_ rfl | exact Off.mix | refine Off.mix2 ?_ rfl | exact Off.refl)) (allLook_cons (by rw [hfl2]; exact (by repeat (first | exact Look.here | apply Look.there (hne := rfl) | exact Look.const | apply Look.mix rfl | exact Look.arg0 | apply Look.args | exact Look.func))) (allLook_cons (by repeat (first | exact Look.here | apply Look.there (hne := rfl) | exact Look.const | apply Look.mix rfl | exact Look.arg0 | apply Look.args | exact Look.func)) allLook_nil)), rfl, by omega⟩, by omega⟩
  · -- else_t12
    obtain rfl : i = ps.length := by omega
    rw [List.take_length]
    refine JC.exit ?_ -- 0
    refine JC.rs ?_
    refine Seq.p rfl Ev.move ?_
    obtain ⟨m, hm⟩ : ∃ m, m = (ps.flatMap (·.l)).length := ⟨_, rfl⟩
    rw [← hm]
    refine Seq.call rfl (fun w' hw => growNilB (m := m) (by omega)) (F := []) (by exact List.Perm.refl _) ?_
    rintro _ _ ⟨A24, c24, rfl, rfl⟩
    simp only [List.cons_append, List.nil_append]
    refine Seq.p rfl Ev.assign ?_
    refine Seq.nil ?_
    refine JC.seq ?_
    refine JC.rs ?_
    refine Seq.p rfl Ev.move ?_
    refine Seq.p rfl (Ev.lenSl sl.sl_sl_uint8 (hr := hr.r)) ?_
    refine Seq.p rfl Ev.move ?_
    refine Seq.nil ?_
    refine JC.blk ?_
    refine JC.loop (α := Nat) (I := fun i e1 H1 => ∃ A c, Has [6, 8, 27, 28, 29, 30, 31, 32, 33, 34] [(6, .slice A ((ps.take i).flatMap (·.l)).length c), (27, .int .i64 (i : Int))] _ e1 ∧ H1 = [bytesC (.slice A ((ps.take i).flatMap (·.l)).length c) ((ps.take i).flatMap (·.l))] ∧ i ≤ ps.length) (μ := fun i => ps.length - i) 0 ⟨A24, c24, Has.mk Off.refl (allLook_cons (by repeat (first | exact Look.here | apply Look.there (hne := rfl) | exact Look.const | apply Look.mix rfl | exact Look.arg0 | apply Look.args | exact Look.func)) (allLook_cons (by repeat (first | exact Look.here | apply Look.there (hne := rfl) | exact Look.const | apply Look.mix rfl | exact Look.arg0 | apply Look.args | exact Look.func)) allLook_nil)), rfl, by omega⟩ ?_
    rintro i _ _ ⟨A, c, ⟨u2, rfl⟩, rfl, hi⟩; dsimp only [setL]
    refine JC.rs ?_
    refine Seq.p rfl Ev.lt ?_
    refine Seq.nil ?_
    refine JC.seq ?_
    first | refine JC.c (ht := fun c28 => ?_) (hf := fun c28 => ?_) | refine JC.cb (ht := fun c28 => ?_) (hf := fun c28 => ?_)
    · -- then_t28
      have hi2 : i < ps.length := by omega
      have hft := flat_take (·.l) hi2
      have hfl := flat_le (·.l) ps (i + 1)
      have hfl2 := congrArg List.length hft
      rw [List.length_append] at hfl2
      have hpi := hp _ (get_memS hi2)
      refine JC.skip ?_
      refine JC.seq ?_
      refine JC.blk ?_
      refine JC.rs ?_
      refine Seq.p rfl (Ev.iaN sl.sl_sl_uint8 (hr := hr.r)) ?_
      refine Seq.p rfl (Ev.ldE1 sc.sl_uint8 (hr := hr.r)) ?_
      refine Seq.p rfl Ev.assign ?_
      refine Seq.nil ?_
      refine JC.reg ?_
      refine Seq.p rfl Ev.move ?_
      refine Seq.p rfl Ev.move ?_
      refine Seq.append (hsl := sl.sl_uint8) (he := el.uint8) (hsrc := (fun w' hw => Src.rsl sl.sl_uint8 (hpi.up hw) (by omega) byteOne)) (k := ?_); intro A33 c33
      refine Seq.p rfl Ev.assign ?_
      refine Seq.nil ?_
      refine JC.reg ?_
      refine Seq.p rfl (by first | exact Ev.inc | exact Ev.add) ?_
      refine Seq.p rfl Ev.move ?_
      refine Seq.nil ?_
      refine ⟨i + 1, _, Part.refl _, ⟨A33, c33, Has.mk (by repeat (first | refine Off.upd ?_ rfl | exact Off.mix | refine Off.mix2 ?_ rfl | exact Off.refl)) (allLook_cons (by rw [hfl2]; exact (by repeat (first | exact Look.here | apply Look.there (hne := rfl) | exact Look.const | apply Look.mix rfl | exact Look.arg0 | apply Look.args | exact Look.func))) (allLook_cons (by repeat (first | exact Look.here | apply Look.there (hne := rfl) | exact Look.const | apply Look.mix rfl | exact Look.arg0 | apply Look.args | exact Look.func)) allLook_nil)), ?_, by omega⟩, by omega⟩
      rw [hft, bytesC_append _ _ _ _ rfl, List.length_append]
      rfl
    · -- else_t28
      obtain rfl : i = ps.length := by omega
      rw [List.take_length]
      refine JC.exit ?_ -- 2
      refine JC.rs ?_
      refine Seq.p rfl Ev.move ?_
      refine Seq.p rfl Ev.assign ?_
      refine Seq.nil ?_
      refine JC.ret ?_
      -- return 0
      show retQ _ _ _ _ _ _ _ _
      refine ret1 (hp := Part.refl _) (hpost := ?_)
      subst hm
      exact ⟨A, c, rfl, rfl⟩
set_option maxHeartbeats 1000000 in
set_option maxRecDepth 100000 in
theorem textField {w : World} {n : Nat} {v : ByteArray} (hn : n < 10000) (hv : v.size ≤ 70368744177664) (hL : Laid w) :
    Spec Go.Proofs.Tryd.prog 38 #[.int .i64 (n : Int), .string v] w [] (fun u H' => ∃ A c, u = .slice A (fieldL n v).length c ∧ H' = [bytesC (.slice A (fieldL n v).length c) (fieldL n v)]) := by
  have hd4 := decL_four hn
  have hi : (⟨(itoa (n : Int)).toArray⟩ : ByteArray) = decS n := by rw [itoa_nonneg]; rfl
  have hds : (decS n).size = (decL n).length := by rw [← strOf_dec, strOf_size]
  have hss : (decS n ++ ⟨#[61]⟩ ++ v).size = (fldL n v).length := by
    rw [ByteArray.size_append, ByteArray.size_append, hds, fld_len]
    rfl
  have hbo : bytesOf (decS n ++ ⟨#[61]⟩ ++ v) = fldL n v := by
    rw [bytesOf_app, bytesOf_app, bytesOf_dec]
    unfold fldL
    rw [List.append_assoc]
    rfl
  have hfl := fld_len n v
  refine Spec.enter (fn := Go.Proofs.Tryd.f38) (n := 13) [.int .i64 (n : Int), .string v] Go.Proofs.Tryd.func38 (by kernel_rfl) rfl Go.Proofs.Tryd.ntmps38 Go.Proofs.Tryd.results38 rfl (Own.nil _) ?_
  refine JC.rs ?_
  refine Seq.p rfl Ev.assign ?_
  refine Seq.nil ?_
  refine JC.rs ?_
  refine Seq.p rfl Ev.move ?_
  refine Seq.callP rfl (fun w hw => hi ▸ textItoa (by omega) (by omega) (hL.upd hw)) ?_
  refine Seq.p rfl (Ev.addStr (h := by rw [hds]; show _ + 1 ≤ _; omega)) ?_
  refine Seq.p rfl Ev.move ?_
  refine Seq.p rfl (Ev.addStr (h := by rw [ByteArray.size_append, hds]; show _ + 1 + _ ≤ _; omega)) ?_
  refine Seq.strBytes (hs := st.string) (hd := sl.sl_uint8) (he := it.uint8) (hsz := by omega) (k := ?_); intro b10 c10
  rw [hss, hbo]
  refine Seq.buildSlN [_] (hsl := sl.sl_uint8) (hz := z.uint8) (k := ?_); intro b11
  refine Seq.append (hsl := sl.sl_uint8) (he := el.uint8) (hsrc := (fun w' hw => Src.box (hl := by rfl) (hc := fun q u hu => hu) sl.sl_uint8 At.z hw)) (k := ?_); intro A12 c12
  refine Seq.p rfl Ev.assign ?_
  refine Seq.nil ?_
  refine JC.ret ?_
  -- return 0
  show retQ _ _ _ _ _ _ _ _
  refine ret1 (hp := Part.skip (Part.refl _)) (hpost := ?_)
  refine ⟨A12, c12, ?_, ?_⟩
  · unfold fieldL; rw [List.length_append]; rfl
  · unfold fieldL; rw [bytesC_append _ _ _ _ rfl, List.length_append]; rfl
end Go.Rx
/- The program's Encode is the plain function. -/
namespace Go.Rx
open Go Go.RowKit Go.Lib Go.Proofs.YtcggppjpnepoiaaDoor
set_option linter.unusedVariables false
set_option linter.unusedSimpArgs false
def bodyTo (kind : ByteArray) (xs : List Tg) (i : Nat) : List Int := fieldL 35 kind ++ (xs.take i).flatMap fun t => fieldL t.tag.toNat t.value
theorem bodyTo_succ {kind : ByteArray} {xs : List Tg} {i : Nat} (h : i < xs.length) : bodyTo kind xs (i + 1) = bodyTo kind xs i ++ fieldL (xs[i]!).tag.toNat (xs[i]!).value := by
  unfold bodyTo
  rw [flat_take _ h, List.append_assoc]
theorem bodyTo_le (kind : ByteArray) (xs : List Tg) (i : Nat) : (bodyTo kind xs i).length ≤ (bodyL kind xs).length := by
  unfold bodyTo bodyL
  rw [List.length_append, List.length_append]
  have := flat_le (fun t : Tg => fieldL t.tag.toNat t.value) xs i
  omega
theorem bodyTo_all (kind : ByteArray) (xs : List Tg) : bodyTo kind xs xs.length = bodyL kind xs := by
  unfold bodyTo bodyL
  rw [List.take_length]
theorem bytesOf_begin : bytesOf beginS = beginL := by decide
theorem encE_bad {xs : List Tg} {i : Nat} (hi : i < xs.length) (h : refusedF (xs.take i) xs[i]! ≠ 0) : encE (xs.take i) (xs.drop i) = refusedF (xs.take i) xs[i]! := by
  rw [List.drop_eq_getElem_cons hi, ← getElem!_pos xs i hi]
  unfold encE
  exact if_pos h
theorem encE_next {xs : List Tg} {i : Nat} (hi : i < xs.length) (h : ¬ refusedF (xs.take i) xs[i]! ≠ 0) : encE (xs.take i) (xs.drop i) = encE (xs.take (i + 1)) (xs.drop (i + 1)) := by
  rw [List.drop_eq_getElem_cons hi, ← getElem!_pos xs i hi, List.take_succ_eq_append_getElem hi, ← getElem!_pos xs i hi]
  conv => lhs; unfold encE
  exact if_neg h
theorem encF_kind {kind : ByteArray} {xs : List Tg} (h : kindB kind = false) : encF kind xs = (3, []) := if_pos h
theorem encF_many {kind : ByteArray} {xs : List Tg} (h : ¬ kindB kind = false) (h1 : 64 < xs.length) : encF kind xs = (2, []) := by unfold encF; rw [if_neg h, if_pos h1]
theorem encF_ref {kind : ByteArray} {xs : List Tg} (h : ¬ kindB kind = false) (h1 : ¬ 64 < xs.length) (h2 : encE [] xs ≠ 0) : encF kind xs = (encE [] xs, []) := by unfold encF; rw [if_neg h, if_neg h1, if_pos h2]
theorem encF_long {kind : ByteArray} {xs : List Tg} (h : ¬ kindB kind = false) (h1 : ¬ 64 < xs.length) (h2 : ¬ encE [] xs ≠ 0) (h3 : 2048 < (lineL kind xs).length) : encF kind xs = (2, []) := by unfold encF; rw [if_neg h, if_neg h1, if_neg h2, if_pos h3]
theorem encF_line {kind : ByteArray} {xs : List Tg} (h : ¬ kindB kind = false) (h1 : ¬ 64 < xs.length) (h2 : ¬ encE [] xs ≠ 0) (h3 : ¬ 2048 < (lineL kind xs).length) : encF kind xs = (0, lineL kind xs) := by unfold encF; rw [if_neg h, if_neg h1, if_neg h2, if_neg h3]
theorem decL_nineteen {n : Nat} (h : n ≤ 1099511627776) : (decL n).length ≤ 19 := by
  have h1 := natF_dec (n := n) (by omega)
  have h2 : (decL n).length ≤ 20 := by
    unfold natF at h1
    split at h1
    · cases h1
    · rename_i hc
      rw [strOf_size] at hc
      omega
  rcases Nat.lt_or_ge (decL n).length 20 with h3 | h3
  · omega
  · exfalso
    have s : ∀ k : Nat, ¬ k < 10 → (decDigits k).length = (decDigits (k / 10)).length + 1 := fun k hk => by
      rw [decDigits, dif_neg hk, List.length_append]
      rfl
    have e : ∀ k : Nat, k < 10 → (decDigits k).length = 1 := fun k hk => by rw [decDigits_one hk]; rfl
    have key : ∀ m k : Nat, k < 10 ^ (m + 1) → (decDigits k).length ≤ m + 1 := by
      intro m
      induction m with
      | zero => intro k hk; rw [e k (by simpa using hk)]; exact Nat.le_refl _
      | succ m ih =>
        intro k hk
        by_cases h1 : k < 10
        · rw [e k h1]; omega
        · rw [s k h1]
          have := ih (k / 10) (by rw [Nat.pow_succ] at hk; omega)
          omega
    have h4 := key 18 n (by have : (10 : Nat) ^ (18 + 1) = 10000000000000000000 := by decide
                            omega)
    have h5 : (decL n).length = (decDigits n).length := by unfold decL; rw [List.length_map]
    omega
set_option maxHeartbeats 1000000 in
set_option maxRecDepth 100000 in
theorem textEncode {w : World} {v : Value} {kind : ByteArray} {xs : List Tg} (hr : RSl Tg.enc 2 w [] v xs) (hk : kind.size ≤ 281474976710656) (hsz : ∀ t ∈ xs, t.value.size ≤ 70368744177664) (hb : (bodyL kind xs).length ≤ 1099511627776) (hL : Laid w) :
    Spec Go.Proofs.Tryd.prog 23 #[.string kind, v] w [] (fun u H' => ∃ A c, u = .tuple #[.slice A (encF kind xs).2.length c, .int .i64 (encF kind xs).1] ∧ H' = [bytesC (.slice A (encF kind xs).2.length c) (encF kind xs).2]) := by
  have hsm := hr.small
  obtain ⟨ec, eb, hef⟩ : ∃ a b, encF kind xs = (a, b) := ⟨_, _, rfl⟩
  rw [hef]
  obtain ⟨f35, hf35⟩ : ∃ f, f = fieldL 35 kind := ⟨_, rfl⟩
  obtain ⟨body, hbody⟩ : ∃ f, f = bodyL kind xs := ⟨_, rfl⟩
  obtain ⟨ds, hds0⟩ : ∃ f, f = beginL ++ decL body.length := ⟨_, rfl⟩
  obtain ⟨front, hfront⟩ : ∃ f, f = frontL kind xs := ⟨_, rfl⟩
  obtain ⟨la, hla⟩ : ∃ f, f = lastL front := ⟨_, rfl⟩
  obtain ⟨line, hline⟩ : ∃ f, f = lineL kind xs := ⟨_, rfl⟩
  have hll : line = front ++ la := by rw [hline, hla, hfront]; rfl
  have hl7 : la.length = 7 := by rw [hla]; rfl
  have hll3 : line.length = front.length + 7 := by rw [hll, List.length_append, hl7]
  have hd19 := decL_nineteen hb
  have hfl := front_len kind xs
  rw [← hfront] at hfl
  rw [← hbody] at hb hd19 hfl
  have hdl : ds.length = 10 + (decL body.length).length := by rw [hds0, List.length_append]; rfl
  have hdz : (decS body.length).size = (decL body.length).length := by rw [← strOf_dec, strOf_size]
  have hit : (⟨(itoa (body.length : Int)).toArray⟩ : ByteArray) = decS body.length := by rw [itoa_nonneg]; rfl
  have hss : (beginS ++ decS body.length).size = ds.length := by rw [ByteArray.size_append, hdl, hdz]; rfl
  have hbo : bytesOf (beginS ++ decS body.length) = ds := by rw [bytesOf_app, bytesOf_dec, bytesOf_begin, hds0]
  have hfe : front = ds ++ [1] ++ body := by rw [hfront, hds0, hbody]; rfl
  have hBl : isBytes la := by rw [hla]; exact isBytes_last _
  have hfB : isBytes front := by
    rw [hfe]
    intro x hx
    rcases List.mem_append.1 hx with hx | hx
    · rcases List.mem_append.1 hx with hx | hx
      · rw [hds0] at hx
        rcases List.mem_append.1 hx with hx | hx
        · have hbb : isBytes beginL := by
            intro x hx
            simp only [beginL, List.mem_cons, List.not_mem_nil, or_false] at hx
            omega
          exact hbb x hx
        · exact decL_bytes _ x hx
      · rw [List.mem_singleton.1 hx]; decide
    · have hfb : ∀ (n : Nat) (v : ByteArray), isBytes (fieldL n v) := fun n v y hy => by
        unfold fieldL fldL at hy
        rcases List.mem_append.1 hy with hy | hy
        · rcases List.mem_append.1 hy with hy | hy
          · exact decL_bytes _ y hy
          · rcases List.mem_cons.1 hy with rfl | hy
            · decide
            · exact bytesOf_range _ y hy
        · rw [List.mem_singleton.1 hy]; decide
      rw [hbody] at hx
      unfold bodyL at hx
      rcases List.mem_append.1 hx with hx | hx
      · exact hfb _ _ x hx
      · obtain ⟨t, _, ht⟩ := List.mem_flatMap.1 hx
        exact hfb _ _ x ht
  have hsl : strOf la = strOf (lastL front) := by rw [hla]
  have hslz : (strOf la).size = la.length := strOf_size la
  have hslb : bytesOf (strOf la) = la := bytesOf_str hBl
  refine Spec.enter (fn := Go.Proofs.Tryd.f23) (n := 61) [.string kind, v] Go.Proofs.Tryd.func23 (by kernel_rfl) rfl Go.Proofs.Tryd.ntmps23 Go.Proofs.Tryd.results23 rfl (Own.nil _) ?_
  refine JC.re (fun w h => h.nilOwn 5 1) ?_
  refine JC.rs ?_
  refine Seq.p rfl Ev.assign ?_
  refine Seq.p rfl Ev.assign ?_
  refine Seq.nil ?_
  refine JC.seq ?_
  refine JC.blk ?_
  refine JC.rs ?_
  refine Seq.p rfl Ev.move ?_
  refine Seq.callP rfl (fun w hw => textIsKind hk) ?_
  refine Seq.p rfl Ev.not ?_
  refine Seq.p rfl Ev.assign ?_
  refine Seq.nil ?_
  first | refine JC.c (ht := fun c11 => ?_) (hf := fun c11 => ?_) | refine JC.cb (ht := fun c11 => ?_) (hf := fun c11 => ?_)
  · -- then_t11
    have h1 : kindB kind = false := by simpa using c11
    refine JC.rs ?_
    refine Seq.p rfl Ev.assign ?_
    refine Seq.p rfl Ev.assign ?_
    refine Seq.nil ?_
    refine JC.ret ?_
    -- return 0
    show retQ _ _ _ _ _ _ _ _
    refine ret2 (H' := [bytesC (.slice none 0 0) []]) (hp := (by repeat (first | exact Part.nil _ | refine Part.at (by repeat (first | exact At.z | apply At.s)) ?_))) (hpost := ?_)
    rw [encF_kind h1] at hef
    cases hef
    exact ⟨none, 0, rfl, rfl⟩
  · -- else_t11
    have h1 : ¬ kindB kind = false := by simpa using c11
    refine JC.rs ?_
    refine Seq.p rfl Ev.move ?_
    refine Seq.p rfl (Ev.lenSl sl.sl_api_Tag (hr := hr.r)) ?_
    refine Seq.p rfl Ev.gt ?_
    refine Seq.p rfl Ev.assign ?_
    refine Seq.nil ?_
    first | refine JC.c (ht := fun c15 => ?_) (hf := fun c15 => ?_) | refine JC.cb (ht := fun c15 => ?_) (hf := fun c15 => ?_)
    · -- then_t15
      refine JC.rs ?_
      refine Seq.p rfl Ev.assign ?_
      refine Seq.p rfl Ev.assign ?_
      refine Seq.nil ?_
      refine JC.ret ?_
      -- return 1
      show retQ _ _ _ _ _ _ _ _
      refine ret2 (H' := [bytesC (.slice none 0 0) []]) (hp := (by repeat (first | exact Part.nil _ | refine Part.at (by repeat (first | exact At.z | apply At.s)) ?_))) (hpost := ?_)
      rw [encF_many h1 (by omega)] at hef
      cases hef
      exact ⟨none, 0, rfl, rfl⟩
    · -- else_t15
      have h2 : ¬ 64 < xs.length := by omega
      have hb0 : bodyTo kind xs 0 = f35 := by rw [hf35]; simp [bodyTo]
      have hkz : kind.size ≤ 70368744177664 := by
        have h5 := bodyTo_le kind xs 0
        rw [hb0, hf35, field_len, ← hbody] at h5
        omega
      refine JC.skip ?_
      refine JC.rs ?_
      refine Seq.p rfl Ev.move ?_
      refine Seq.call rfl (fun w' hw => by have h := textField (n := 35) (by decide) hkz (hL.upd hw); rw [← hf35] at h; exact h) (F := _) (by exact List.Perm.refl _) ?_
      rintro _ _ ⟨A20, c20, rfl, rfl⟩
      simp only [List.cons_append, List.nil_append]
      refine Seq.p rfl Ev.assign ?_
      refine Seq.nil ?_
      refine JC.seq ?_
      refine JC.rs ?_
      refine Seq.p rfl Ev.move ?_
      refine Seq.p rfl (Ev.lenSl sl.sl_api_Tag (hr := hr.r)) ?_
      refine Seq.p rfl Ev.move ?_
      refine Seq.nil ?_
      refine JC.blk ?_
      refine JC.loop (α := Nat) (I := fun i e1 H1 => ∃ A c m, Has [4, 5, 6, 7, 8, 9, 23, 24, 25, 26, 27, 28, 29, 30, 31, 32, 33, 34, 35, 36, 37, 38, 39, 40, 41, 42, 43] [(6, .slice A m.length c), (23, .int .i64 (i : Int))] _ e1 ∧ H1 = [bytesC (.slice A m.length c) m, bytesC (.slice none 0 0) []] ∧ i ≤ xs.length ∧ encE (xs.take i) (xs.drop i) = encE [] xs ∧ m = bodyTo kind xs i) (μ := fun i => xs.length - i) 0 ⟨A20, c20, f35, Has.mk Off.refl (allLook_cons (by repeat (first | exact Look.here | apply Look.there (hne := rfl) | exact Look.const | apply Look.mix rfl | exact Look.arg0 | apply Look.args | exact Look.func)) (allLook_cons (by repeat (first | exact Look.here | apply Look.there (hne := rfl) | exact Look.const | apply Look.mix rfl | exact Look.arg0 | apply Look.args | exact Look.func)) allLook_nil)), rfl, by omega, rfl, hb0.symm⟩ ?_
      rintro i _ _ ⟨A, c, m, ⟨u, rfl⟩, rfl, hi, he, hm⟩; dsimp only [setL]
      refine JC.rs ?_
      refine Seq.p rfl Ev.lt ?_
      refine Seq.nil ?_
      refine JC.seq ?_
      first | refine JC.c (ht := fun c24 => ?_) (hf := fun c24 => ?_) | refine JC.cb (ht := fun c24 => ?_) (hf := fun c24 => ?_)
      · -- then_t24
        have hi2 : i < xs.length := by omega
        have htake : RSl Tg.enc 2 w [] (subSl v 0 i 2) (xs.take i) := by
          have h3 := hr.sub (lo := 0) (hi := i) (by omega) (by omega)
          rwa [List.drop_zero] at h3
        have hvs := hsz _ (get_memS hi2)
        refine JC.skip ?_
        refine JC.seq ?_
        refine JC.blk ?_
        refine JC.rs ?_
        refine Seq.p rfl Ev.move ?_
        refine Seq.p rfl (Ev.iaN sl.sl_api_Tag (hr := hr.r)) ?_
        refine Seq.p rfl (Ev.ldEA ag.api_Tag (hr := hr.r)) ?_
        refine Seq.alloc (cs := [_, _]) (hz := z.api_Tag) (k := ?_); intro b8
        refine Seq.p rfl Ev.assign ?_
        refine Seq.storeN [_, _] sz.api_Tag (k := ?_)
        refine Seq.nil ?_
        refine JC.seq ?_
        refine JC.qs mixed (by kernel_rfl) ?_
        refine Qui.p rfl Ev.move ?_
        refine Qui.p rfl Ev.move ?_
        refine Qui.p rfl (Ev.cut sl.sl_api_Tag (hr := hr.r) (l := 0) (h := i) (hlo := rfl) (hhi := ⟨_, (by repeat (first | exact Look.here | apply Look.there (hne := rfl) | exact Look.const | apply Look.mix rfl | exact Look.arg0 | apply Look.args | exact Look.func))⟩)) ?_
        refine Qui.p rfl (Ev.ldBA ag.api_Tag) ?_
        refine Qui.call rfl (fun w hw => textRefused (t := xs[i]!) (htake.up hw) (by omega)) ?_
        refine Qui.p rfl Ev.assign ?_
        refine Qui.nil ?_
        refine JC.rs ?_
        refine Seq.p rfl Ev.move ?_
        refine Seq.p rfl Ev.ne ?_
        refine Seq.nil ?_
        first | refine JC.c (ht := fun c34 => ?_) (hf := fun c34 => ?_) | refine JC.cb (ht := fun c34 => ?_) (hf := fun c34 => ?_)
        · -- then_t34
          refine JC.rs ?_
          refine Seq.p rfl Ev.move ?_
          refine Seq.p rfl Ev.assign ?_
          refine Seq.p rfl Ev.assign ?_
          refine Seq.nil ?_
          refine JC.ret ?_
          -- return 2
          show retQ _ _ _ _ _ _ _ _
          refine ret2 (H' := [bytesC (.slice none 0 0) []]) (hp := (by repeat (first | exact Part.nil _ | refine Part.at (by repeat (first | exact At.z | apply At.s)) ?_))) (hpost := ?_)
          have h4 := encE_bad hi2 c34
          rw [encF_ref h1 h2 (by rw [← he, h4]; exact c34), ← he, h4] at hef
          cases hef
          exact ⟨none, 0, rfl, rfl⟩
        · -- else_t34
          have h4 := encE_next hi2 c34
          obtain ⟨q1, q2, q3⟩ := refused_ok (Classical.not_not.1 c34)
          obtain ⟨g1, g2, g3⟩ := tag_range q1
          have hbs := bodyTo_succ (kind := kind) hi2
          have hbl := bodyTo_le kind xs (i + 1)
          obtain ⟨fl, hfl2⟩ : ∃ f, f = fieldL (xs[i]!).tag.toNat (xs[i]!).value := ⟨_, rfl⟩
          rw [← hm, ← hfl2] at hbs
          rw [hbs, List.length_append, ← hbody] at hbl
          refine JC.skip ?_
          refine JC.reg ?_
          refine Seq.p rfl Ev.move ?_
          refine Seq.p rfl (Ev.faB fd.api_Tag_0) ?_
          refine Seq.p rfl (Ev.ldB sc.int) ?_
          refine Seq.p rfl (Ev.faB fd.api_Tag_1) ?_
          refine Seq.p rfl (Ev.ldB sc.string) ?_
          refine Seq.call rfl (fun w' hw => by have h := textField (n := (xs[i]!).tag.toNat) g2 hvs (hL.upd hw); rw [← hfl2, g1] at h; exact h) (F := _) (by exact List.Perm.refl _) ?_
          rintro _ _ ⟨A41, c41, rfl, rfl⟩
          simp only [List.cons_append, List.nil_append]
          refine Seq.append (hsl := sl.sl_uint8) (he := el.uint8) (hH := At.s (At.s At.z)) (hsrc := fun w' hw => Src.rsl sl.sl_uint8 (RAt.up (RAt.own (enc := byteEnc) (xs := fl)) hw) (by omega) byteOne) (k := ?_); intro A42 c42
          rw [← bytesC_append (.slice A42 (m.length + fl.length) c42) m fl _ rfl, ← List.length_append]
          refine Seq.p rfl Ev.assign ?_
          refine Seq.nil ?_
          refine JC.reg ?_
          refine Seq.p rfl (by first | exact Ev.inc | exact Ev.add) ?_
          refine Seq.p rfl Ev.move ?_
          refine Seq.nil ?_
          exact ⟨i + 1, [bytesC (.slice A42 (m ++ fl).length c42) (m ++ fl), bytesC (.slice none 0 0) []], (by repeat (first | exact Part.nil _ | refine Part.at (by repeat (first | exact At.z | apply At.s)) ?_)), ⟨A42, c42, m ++ fl, Has.mk (by repeat (first | refine Off.upd ?_ rfl | exact Off.mix | refine Off.mix2 ?_ rfl | exact Off.refl)) (allLook_cons (by repeat (first | exact Look.here | apply Look.there (hne := rfl) | exact Look.const | apply Look.mix rfl | exact Look.arg0 | apply Look.args | exact Look.func)) (allLook_cons (by repeat (first | exact Look.here | apply Look.there (hne := rfl) | exact Look.const | apply Look.mix rfl | exact Look.arg0 | apply Look.args | exact Look.func)) allLook_nil)), rfl, by omega, by rw [← h4]; exact he, hbs.symm⟩, by omega⟩
      · -- else_t24
        obtain rfl : i = xs.length := by omega
        obtain rfl : m = body := by rw [hm, hbody]; exact bodyTo_all kind xs
        rw [List.take_length, List.drop_length] at he
        have h3 : ¬ encE [] xs ≠ 0 := fun h => h (by rw [← he]; rfl)
        refine JC.exit ?_ -- 1
        refine JC.rs ?_
        refine Seq.p rfl Ev.move ?_
        refine Seq.p rfl (Ev.lenSl sl.sl_uint8 (hr := RAt.own (enc := byteEnc) (xs := m))) ?_
        refine Seq.callP rfl (fun w hw => hit ▸ textItoa (by omega) (by omega) (hL.upd hw)) ?_
        refine Seq.p rfl (Ev.addStr (h := by rw [hdz]; show 10 + _ ≤ _; omega)) ?_
        refine Seq.strBytes (hs := st.string) (hd := sl.sl_uint8) (he := it.uint8) (hsz := by show (beginS ++ decS m.length).size ≤ _; omega) (k := ?_); intro b48 c48
        rw [hss, hbo]
        refine Seq.buildSlN _ (hsl := sl.sl_uint8) (hz := z.uint8) (k := ?_); intro b49
        refine Seq.re (fun w h => Upd.boxOwn h (n := 1) (size := 1) At.z rfl (by omega)) ?_
        refine Seq.p rfl Ev.move ?_
        refine Seq.buildSlN [_, _, _] (hsl := sl.sl_sl_uint8) (hz := z.sl_uint8) (k := ?_); intro b51
        obtain ⟨ps, hps⟩ : ∃ ps : List Sb, ps = [⟨.slice (some ⟨b48, 0, none⟩) ds.length c48, ds⟩, ⟨.slice (some ⟨b49, 0, none⟩) 1 1, [1]⟩, ⟨.slice A m.length c, m⟩] := ⟨_, rfl⟩
        have hpf : ps.flatMap (·.l) = front := by rw [hps, hfe]; simp [List.flatMap_cons]
        refine Seq.call rfl (fun w' hw => by
          have h7 := concatBytes (w := w') (v := .slice (some ⟨b51, 0, none⟩) 3 3) (ps := ps) (RAt.up (RAt.box (enc := Sb.enc) (xs := ps) (m := 3) (hH := At.z) (hcs := by rw [hps]; rfl) (hm := by rw [hps]; rfl) (hs := by rw [hps]; show 3 ≤ 4611686018427387904; decide)) hw) (by
            intro p hp
            rw [hps] at hp
            simp only [List.mem_cons, List.not_mem_nil, or_false] at hp
            rcases hp with rfl | rfl | rfl
            · exact RAt.up (RAt.own (enc := byteEnc) (xs := ds)) hw
            · exact RAt.up (RAt.own (enc := byteEnc) (xs := [1]) (hs := by decide)) hw
            · exact RAt.up (RAt.own (enc := byteEnc) (xs := m)) hw) (by rw [hpf]; omega)
          rw [hpf] at h7
          exact h7) (F := _) (by exact List.Perm.refl _) ?_
        rintro _ _ ⟨A52, c52, rfl, rfl⟩
        simp only [List.cons_append, List.nil_append]
        refine Seq.p rfl Ev.assign ?_
        refine Seq.nil ?_
        refine JC.rs ?_
        refine Seq.p rfl Ev.move ?_
        refine Seq.p rfl Ev.move ?_
        refine Seq.callP (v := .string (strOf la)) rfl (fun w' hw => by have h := textLast (RAt.up (RAt.own (enc := byteEnc) (xs := front)) hw) hfB (hL.upd hw); rw [← hsl] at h; exact h) ?_
        refine Seq.append (hsl := sl.sl_uint8) (he := el.uint8) (hH := At.z) (hsrc := fun w' hw => Src.str st.string (strOf la) w') (h63 := by omega) (hb := by omega) (k := ?_); intro A56 c56
        rw [hslz, hslb, ← bytesC_append (.slice A56 (front.length + la.length) c56) front la _ rfl, ← List.length_append, ← hll]
        refine Seq.p rfl Ev.assign ?_
        refine Seq.nil ?_
        refine JC.seq ?_
        refine JC.rs ?_
        refine Seq.p rfl Ev.move ?_
        refine Seq.p rfl (Ev.lenSl sl.sl_uint8 (hr := RAt.own (enc := byteEnc) (xs := line))) ?_
        refine Seq.p rfl Ev.gt ?_
        refine Seq.nil ?_
        first | refine JC.c (ht := fun c59 => ?_) (hf := fun c59 => ?_) | refine JC.cb (ht := fun c59 => ?_) (hf := fun c59 => ?_)
        · -- then_t59
          refine JC.rs ?_
          refine Seq.p rfl Ev.assign ?_
          refine Seq.p rfl Ev.assign ?_
          refine Seq.nil ?_
          refine JC.ret ?_
          -- return 3
          show retQ _ _ _ _ _ _ _ _
          refine ret2 (H' := [bytesC (.slice none 0 0) []]) (hp := (by repeat (first | exact Part.nil _ | refine Part.at (by repeat (first | exact At.z | apply At.s)) ?_))) (hpost := ?_)
          rw [encF_long h1 h2 h3 (by rw [← hline]; omega)] at hef
          cases hef
          exact ⟨none, 0, rfl, rfl⟩
        · -- else_t59
          refine JC.skip ?_
          refine JC.rs ?_
          refine Seq.p rfl Ev.move ?_
          refine Seq.p rfl Ev.assign ?_
          refine Seq.p rfl Ev.assign ?_
          refine Seq.nil ?_
          refine JC.ret ?_
          -- return 4
          show retQ _ _ _ _ _ _ _ _
          refine ret2 (H' := [bytesC (.slice A56 line.length c56) line]) (hp := (by repeat (first | exact Part.nil _ | refine Part.at (by repeat (first | exact At.z | apply At.s)) ?_))) (hpost := ?_)
          rw [encF_line h1 h2 h3 (by rw [← hline]; omega), ← hline] at hef
          cases hef
          exact ⟨A56, c56, rfl, rfl⟩
end Go.Rx
/- The laws bourselaw03.TextBack and TextSpoilt give true: the plain part, and TextBack's walk. -/
namespace Go.Rx
open Go Go.RowKit Go.Lib Go.Proofs.YtcggppjpnepoiaaDoor
set_option linter.unusedVariables false
set_option linter.unusedSimpArgs false
theorem one_ok : ∃ one, encF ⟨#[48]⟩ [] = (0, one) ∧ 0 < one.length := by
  have h1 := line_len ⟨#[48]⟩ []
  have h2 : (bodyL ⟨#[48]⟩ []).length = (decL 35).length + 2 + 1 := by
    unfold bodyL
    rw [List.flatMap_nil, List.append_nil, field_len]
    rfl
  have h3 := decL_four (n := 35) (by decide)
  have h4 := decL_four (n := (bodyL ⟨#[48]⟩ []).length) (by omega)
  exact ⟨lineL ⟨#[48]⟩ [], encF_line (by decide) (by decide) (by decide) (by omega), by omega⟩
theorem one_body : (bodyL ⟨#[48]⟩ []).length ≤ 1099511627776 := by
  have h2 : (bodyL ⟨#[48]⟩ []).length = (decL 35).length + 2 + 1 := by
    unfold bodyL
    rw [List.flatMap_nil, List.append_nil, field_len]
    rfl
  have h3 := decL_four (n := 35) (by decide)
  omega
theorem field_bytes (n : Nat) (v : ByteArray) : isBytes (fieldL n v) := fun y hy => by
  unfold fieldL fldL at hy
  rcases List.mem_append.1 hy with hy | hy
  · rcases List.mem_append.1 hy with hy | hy
    · exact decL_bytes _ y hy
    · rcases List.mem_cons.1 hy with rfl | hy
      · decide
      · exact bytesOf_range _ y hy
  · rw [List.mem_singleton.1 hy]; decide
theorem app_bytes {a b : List Int} (ha : isBytes a) (hb : isBytes b) : isBytes (a ++ b) := fun x hx => by
  rcases List.mem_append.1 hx with h | h
  · exact ha x h
  · exact hb x h
theorem line_bytes (kind : ByteArray) (xs : List Tg) : isBytes (lineL kind xs) := by
  have hbb : isBytes beginL := by
    intro x hx
    simp only [beginL, List.mem_cons, List.not_mem_nil, or_false] at hx
    omega
  have h1 : isBytes [1] := by
    intro x hx
    rw [List.mem_singleton.1 hx]; decide
  have hbo : isBytes (bodyL kind xs) := by
    refine app_bytes (field_bytes _ _) fun x hx => ?_
    obtain ⟨t, _, ht⟩ := List.mem_flatMap.1 hx
    exact field_bytes _ _ x ht
  exact app_bytes (app_bytes (app_bytes (app_bytes hbb (decL_bytes _)) h1) hbo) (isBytes_last _)
theorem encF_len (kind : ByteArray) (xs : List Tg) : (encF kind xs).2.length ≤ 2048 := by
  unfold encF
  split
  · exact Nat.zero_le _
  · split
    · exact Nat.zero_le _
    · split
      · exact Nat.zero_le _
      · split
        · exact Nat.zero_le _
        · show (lineL kind xs).length ≤ 2048
          omega
theorem encF_body {kind : ByteArray} {xs : List Tg} {l : List Int} (h : encF kind xs = (0, l)) : (bodyL kind xs).length ≤ 1099511627776 := by
  obtain ⟨_, _, _, h1, _⟩ := encF_ok h
  rw [line_len] at h1
  omega
set_option maxHeartbeats 1000000 in
set_option maxRecDepth 100000 in
theorem lawSame {w : World} {va vb : Value} {xs ys : List Int} (ha : RSl byteEnc 1 w [] va xs) (hb : RSl byteEnc 1 w [] vb ys) :
    Spec Go.Proofs.Tryd.prog 24 #[va, vb] w [] (fun u _ => u = .bool (decide (xs = ys))) := by
  have ha1 := ha.small
  have hb1 := hb.small
  refine Spec.enter (fn := Go.Proofs.Tryd.f24) (n := 26) [va, vb] Go.Proofs.Tryd.func24 (by kernel_rfl) rfl Go.Proofs.Tryd.ntmps24 Go.Proofs.Tryd.results24 rfl (Own.nil _) ?_
  refine JC.rs ?_
  refine Seq.p rfl Ev.assign ?_
  refine Seq.nil ?_
  refine JC.seq ?_
  refine JC.rs ?_
  refine Seq.p rfl Ev.move ?_
  refine Seq.p rfl (Ev.lenSl sl.sl_uint8 (hr := ha.r)) ?_
  refine Seq.p rfl Ev.move ?_
  refine Seq.p rfl (Ev.lenSl sl.sl_uint8 (hr := hb.r)) ?_
  refine Seq.p rfl Ev.ne ?_
  refine Seq.nil ?_
  first | refine JC.c (ht := fun c10 => ?_) (hf := fun c10 => ?_) | refine JC.cb (ht := fun c10 => ?_) (hf := fun c10 => ?_)
  · -- then_t10
    refine JC.rs ?_
    refine Seq.p rfl Ev.assign ?_
    refine Seq.nil ?_
    refine JC.ret ?_
    -- return 0
    show retQ _ _ _ _ _ _ _ _
    refine ret1 (hp := Part.nil _) (hpost := ?_)
    have : ¬ xs = ys := fun h => c10 (by rw [h])
    rw [decide_eq_false this]
  · -- else_t10
    have hl : xs.length = ys.length := by omega
    refine JC.skip ?_
    refine JC.seq ?_
    refine JC.rs ?_
    refine Seq.p rfl Ev.assign ?_
    refine Seq.nil ?_
    refine JC.blk ?_
    refine JC.loop (α := Nat) (I := fun i e1 H1 => Has [4, 5, 11, 12, 13, 14, 15, 16, 17, 18, 19, 20, 21, 22, 23, 24, 25] [(5, .int .i64 (i : Int))] _ e1 ∧ H1 = _ ∧ i ≤ xs.length ∧ ∀ j < i, xs[j]! = ys[j]!) (μ := fun i => xs.length - i) 0 ⟨Has.mk Off.refl (allLook_cons (by repeat (first | exact Look.here | apply Look.there (hne := rfl) | exact Look.const | apply Look.mix rfl | exact Look.arg0 | apply Look.args | exact Look.func)) allLook_nil), rfl, by omega, by omega⟩ ?_
    rintro i _ _ ⟨⟨u, rfl⟩, rfl, hi, hno⟩; dsimp only [setL]
    refine JC.seq ?_
    refine JC.rs ?_
    refine Seq.p rfl Ev.move ?_
    refine Seq.p rfl Ev.move ?_
    refine Seq.p rfl (Ev.lenSl sl.sl_uint8 (hr := ha.r)) ?_
    refine Seq.p rfl Ev.lt ?_
    refine Seq.nil ?_
    first | refine JC.c (ht := fun c14 => ?_) (hf := fun c14 => ?_) | refine JC.cb (ht := fun c14 => ?_) (hf := fun c14 => ?_)
    · -- then_t14
      have hi2 : i < xs.length := by omega
      refine JC.skip ?_
      refine JC.seq ?_
      refine JC.blk ?_
      refine JC.qs mixed (by kernel_rfl) ?_
      refine Qui.p rfl Ev.move ?_
      refine Qui.p rfl Ev.move ?_
      refine Qui.p rfl (Ev.iaN sl.sl_uint8 (hr := ha.r)) ?_
      refine Qui.p rfl (Ev.ldE1 sc.uint8 (hr := ha.r)) ?_
      refine Qui.p rfl Ev.move ?_
      refine Qui.p rfl Ev.move ?_
      refine Qui.p rfl (Ev.iaN sl.sl_uint8 (hr := hb.r)) ?_
      refine Qui.p rfl (Ev.ldE1 sc.uint8 (hr := hb.r)) ?_
      refine Qui.p rfl Ev.ne ?_
      refine Qui.nil ?_
      first | refine JC.c (ht := fun c25 => ?_) (hf := fun c25 => ?_) | refine JC.cb (ht := fun c25 => ?_) (hf := fun c25 => ?_)
      · -- then_t25
        refine JC.rs ?_
        refine Seq.p rfl Ev.assign ?_
        refine Seq.nil ?_
        refine JC.ret ?_
        -- return 1
        show retQ _ _ _ _ _ _ _ _
        refine ret1 (hp := Part.nil _) (hpost := ?_)
        have : ¬ xs = ys := fun h => c25 (by rw [h])
        rw [decide_eq_false this]
      · -- else_t25
        refine JC.skip ?_
        refine JC.reg ?_
        refine Seq.p rfl Ev.move ?_
        refine Seq.p rfl (by first | exact Ev.inc | exact Ev.add) ?_
        refine Seq.p rfl Ev.assign ?_
        refine Seq.nil ?_
        refine ⟨i + 1, _, Part.refl _, ⟨Has.mk (by repeat (first | refine Off.upd ?_ rfl | exact Off.mix | refine Off.mix2 ?_ rfl | exact Off.refl)) (allLook_cons (by repeat (first | exact Look.here | apply Look.there (hne := rfl) | exact Look.const | apply Look.mix rfl | exact Look.arg0 | apply Look.args | exact Look.func)) allLook_nil), rfl, by omega, fun j hj => ?_⟩, by omega⟩
        by_cases h : j = i
        · rw [h]; exact Classical.not_not.1 c25
        · exact hno j (by omega)
    · -- else_t14
      refine JC.exit ?_ -- 0
      refine JC.rs ?_
      refine Seq.p rfl Ev.assign ?_
      refine Seq.nil ?_
      refine JC.ret ?_
      -- return 2
      show retQ _ _ _ _ _ _ _ _
      refine ret1 (hp := Part.nil _) (hpost := ?_)
      have : xs = ys := by
        apply List.ext_getElem hl
        intro j h1 h2
        have := hno j (by omega)
        rwa [getElem!_pos xs j h1, getElem!_pos ys j h2] at this
      rw [decide_eq_true this]
set_option maxHeartbeats 2000000 in
set_option maxRecDepth 100000 in
theorem lawBack {w : World} {v vb : Value} {kind : ByteArray} {xs : List Tg} {l : List Int} (hr : RSl Tg.enc 2 w [] v xs) (hrb : RSl byteEnc 1 w [] vb l) (hB : isBytes l) (hl : l.length ≤ 70368744177664) (hk : kind.size ≤ 70368744177664) (hsz : ∀ t ∈ xs, t.value.size ≤ 70368744177664) (hx : xs.length ≤ 1099511627776)
    (hb : (bodyL kind xs).length ≤ 1099511627776) (hL : Laid w) :
    Spec Go.Proofs.Tryd.prog 6 #[.string kind, v, vb] w [] (fun u _ => u = .bool true) := by
  obtain ⟨ec, eb, hef⟩ : ∃ a b, encF kind xs = (a, b) := ⟨_, _, rfl⟩
  have heb := encF_len kind xs
  rw [hef] at heb
  replace heb : eb.length ≤ 2048 := heb
  obtain ⟨one, hone, hop⟩ := one_ok
  have hol := encF_len ⟨#[48]⟩ []
  rw [hone] at hol
  replace hol : one.length ≤ 2048 := hol
  have h64 := (readF_tags (l := l) (N := 70368744177664) hl).2
  have hts := (readF_tags (l := l) (N := 70368744177664) hl).1
  obtain ⟨R, hR⟩ : ∃ R, R = readF l := ⟨_, rfl⟩
  rw [← hR] at h64 hts
  refine Spec.enter (fn := Go.Proofs.Tryd.f6) (n := 107) [.string kind, v, vb] Go.Proofs.Tryd.func6 (by kernel_rfl) rfl Go.Proofs.Tryd.ntmps6 Go.Proofs.Tryd.results6 rfl (Own.nil _) ?_
  refine JC.rs ?_
  refine Seq.p rfl Ev.assign ?_
  refine Seq.nil ?_
  refine JC.rs ?_
  refine Seq.p rfl Ev.move ?_
  refine Seq.buildSl (cs := []) (hsl := sl.sl_api_Tag) (hz := z.api_Tag) (hcs := rfl) (k := ?_); intro b3
  refine Seq.re (fun w h => Upd.boxOwn h (n := 0) (size := 2) At.z rfl (by omega)) ?_
  refine Seq.p rfl Ev.move ?_
  refine Seq.append (hsl := sl.sl_api_Tag) (he := el.api_Tag) (hsrc := fun w' hw => Src.rsl sl.sl_api_Tag (hr.up hw) (by omega) tgOne) (k := ?_); intro A6 c6
  rw [Nat.zero_add xs.length, List.nil_append]
  refine Seq.call rfl (fun w' hw => by have h := textEncode (kind := kind) (RAt.up (RAt.own (enc := Tg.enc) (xs := xs)) hw) (by omega) hsz hb (hL.upd hw); rw [hef] at h; exact h) (F := _) (by exact List.Perm.refl _) ?_
  rintro _ _ ⟨A26, c26, rfl, rfl⟩
  simp only [List.cons_append, List.nil_append]
  refine Seq.p rfl Ev.move ?_
  refine Seq.p rfl Ev.extract ?_
  refine Seq.p rfl Ev.extract ?_
  refine Seq.p rfl Ev.assign ?_
  refine Seq.p rfl Ev.assign ?_
  refine Seq.nil ?_
  refine JC.seq ?_
  refine JC.rs ?_
  refine Seq.p rfl Ev.move ?_
  refine Seq.p rfl Ev.eq ?_
  refine Seq.nil ?_
  first | refine JC.c (ht := fun c30 => ?_) (hf := fun c30 => ?_) | refine JC.cb (ht := fun c30 => ?_) (hf := fun c30 => ?_)
  · -- then_t30
    obtain rfl : ec = 0 := c30
    have hre := read_enc hef l
    have hel := (encF_ok hef).2.2.2.2
    have hel2 := (encF_ok hef).2.2.2.1
    rw [← hel] at hel2
    have hBe : isBytes (eb ++ l) := by
      intro x hx
      rcases List.mem_append.1 hx with hx | hx
      · rw [hel] at hx; exact line_bytes kind xs x hx
      · exact hB x hx
    refine JC.rs ?_
    refine Seq.buildSl (cs := []) (hsl := sl.sl_uint8) (hz := z.uint8) (hcs := rfl) (k := ?_); intro b32
    refine Seq.re (fun w h => Upd.boxOwn h (n := 0) (size := 1) At.z rfl (by omega)) ?_
    refine Seq.p rfl Ev.move ?_
    refine Seq.append (hsl := sl.sl_uint8) (he := el.uint8) (hH := At.z) (hsrc := fun w' hw => Src.rsl sl.sl_uint8 (RAt.up (RAt.own (enc := byteEnc) (xs := eb)) hw) (by omega) byteOne) (k := ?_); intro A34 c34
    rw [Nat.zero_add eb.length, List.nil_append]
    refine Seq.p rfl Ev.move ?_
    refine Seq.append (hsl := sl.sl_uint8) (he := el.uint8) (hH := At.z) (hsrc := fun w' hw => Src.rsl sl.sl_uint8 (hrb.up hw) (by omega) byteOne) (k := ?_); intro A36 c36
    rw [← bytesC_append (.slice A36 (eb.length + l.length) c36) eb l _ rfl, ← List.length_append]
    obtain ⟨bz, hbl⟩ : ∃ b, b = eb ++ l := ⟨_, rfl⟩
    have hbll : bz.length = eb.length + l.length := by rw [hbl, List.length_append]
    rw [← hbl] at hre hBe ⊢
    refine Seq.call rfl (fun w' hw => by have h := textDecode (RAt.up (RAt.own (enc := byteEnc) (xs := bz)) hw) hBe (by omega) (hL.upd hw); rw [hre] at h; exact h) (F := _) (by exact List.Perm.refl _) ?_
    rintro _ _ ⟨A37, c37, rfl, rfl⟩
    simp only [List.cons_append, List.nil_append]
    refine Seq.p rfl Ev.move ?_
    refine Seq.p rfl Ev.extract ?_
    refine Seq.p rfl Ev.extract ?_
    refine Seq.p rfl Ev.extract ?_
    refine Seq.p rfl Ev.extract ?_
    refine Seq.p rfl Ev.assign ?_
    refine Seq.p rfl Ev.assign ?_
    refine Seq.p rfl Ev.assign ?_
    refine Seq.p rfl Ev.assign ?_
    refine Seq.nil ?_
    refine JC.rs ?_
    refine Seq.p rfl Ev.move ?_
    refine Seq.p rfl Ev.ne ?_
    refine Seq.p rfl Ev.move ?_
    refine Seq.orG (D := [44, 45, 46, 47, 48]) (d := 44) (t := 48) (k := 4) (hn := fun h44 => ?_) (hx := ?_)
    · repeat (first | refine Seq.gn rfl rfl rfl rfl ?_ | refine Seq.gu rfl rfl rfl ?_)
      refine Seq.p rfl Ev.pickT ?_
      exact Seq.nil ⟨rfl, (by repeat (first | with_reducible exact Off.refl | refine Off.upd ?_ rfl | exact Off.mix | refine Off.mix2 ?_ rfl)), Look.here⟩
    apply Exists.intro
    refine ⟨fun h44 => ?_, fun u48 => ?_⟩
    · try simp only [decide_eq_true_eq, decide_eq_false_iff_not, Bool.and_eq_true, Bool.or_eq_true, Bool.not_eq_true', Bool.not_eq_false', Bool.or_eq_false_iff, Bool.and_eq_false_imp] at h44
      refine Seq.gy rfl rfl rfl ?_
      refine Seq.p rfl Ev.move ?_
      refine Seq.gy rfl rfl rfl ?_
      refine Seq.p rfl Ev.move ?_
      refine Seq.gy rfl rfl rfl ?_
      refine Seq.p rfl Ev.neStr ?_
      refine Seq.p rfl Ev.pickF ?_
      exact Seq.nil ⟨rfl, (by repeat (first | with_reducible exact Off.refl | refine Off.upd ?_ rfl | exact Off.mix | refine Off.mix2 ?_ rfl)), Look.here⟩
    refine Seq.p rfl Ev.move ?_
    refine Seq.orG (D := [49, 50, 51, 52, 53, 54]) (d := 49) (t := 54) (k := 5) (hn := fun h49 => ?_) (hx := ?_)
    · repeat (first | refine Seq.gn rfl rfl rfl rfl ?_ | refine Seq.gu rfl rfl rfl ?_)
      refine Seq.p rfl Ev.pickT ?_
      exact Seq.nil ⟨rfl, (by repeat (first | with_reducible exact Off.refl | refine Off.upd ?_ rfl | exact Off.mix | refine Off.mix2 ?_ rfl)), Look.here⟩
    apply Exists.intro
    refine ⟨fun h49 => ?_, fun u54 => ?_⟩
    · try simp only [decide_eq_true_eq, decide_eq_false_iff_not, Bool.and_eq_true, Bool.or_eq_true, Bool.not_eq_true', Bool.not_eq_false', Bool.or_eq_false_iff, Bool.and_eq_false_imp] at h49
      refine Seq.gy rfl rfl rfl ?_
      refine Seq.p rfl Ev.move ?_
      refine Seq.gy rfl rfl rfl ?_
      refine Seq.p rfl Ev.move ?_
      refine Seq.gy rfl rfl rfl ?_
      refine Seq.callP rfl (fun w hw => lawTags (RAt.up (RAt.own (enc := Tg.enc) (xs := xs)) hw) (hr.up hw)) ?_
      refine Seq.gy rfl rfl rfl ?_
      refine Seq.p rfl Ev.not ?_
      refine Seq.p rfl Ev.pickF ?_
      exact Seq.nil ⟨rfl, (by repeat (first | with_reducible exact Off.refl | refine Off.upd ?_ rfl | exact Off.mix | refine Off.mix2 ?_ rfl)), Look.here⟩
    refine Seq.p rfl Ev.move ?_
    refine Seq.orG (D := [55, 56, 57, 58, 59, 60]) (d := 55) (t := 60) (k := 5) (hn := fun h55 => ?_) (hx := ?_)
    · repeat (first | refine Seq.gn rfl rfl rfl rfl ?_ | refine Seq.gu rfl rfl rfl ?_)
      refine Seq.p rfl Ev.pickT ?_
      exact Seq.nil ⟨rfl, (by repeat (first | with_reducible exact Off.refl | refine Off.upd ?_ rfl | exact Off.mix | refine Off.mix2 ?_ rfl)), Look.here⟩
    apply Exists.intro
    refine ⟨fun h55 => ?_, fun u60 => ?_⟩
    · try simp only [decide_eq_true_eq, decide_eq_false_iff_not, Bool.and_eq_true, Bool.or_eq_true, Bool.not_eq_true', Bool.not_eq_false', Bool.or_eq_false_iff, Bool.and_eq_false_imp] at h55
      refine Seq.gy rfl rfl rfl ?_
      refine Seq.p rfl Ev.move ?_
      refine Seq.gy rfl rfl rfl ?_
      refine Seq.p rfl Ev.move ?_
      refine Seq.gy rfl rfl rfl ?_
      refine Seq.p rfl (Ev.lenSl sl.sl_uint8 (hr := RAt.own (enc := byteEnc) (xs := eb))) ?_
      refine Seq.gy rfl rfl rfl ?_
      refine Seq.p rfl Ev.ne ?_
      refine Seq.p rfl Ev.pickF ?_
      exact Seq.nil ⟨rfl, (by repeat (first | with_reducible exact Off.refl | refine Off.upd ?_ rfl | exact Off.mix | refine Off.mix2 ?_ rfl)), Look.here⟩
    refine Seq.nil ?_
    first | refine JC.c (ht := fun c60 => ?_) (hf := fun c60 => ?_) | refine JC.cb (ht := fun c60 => ?_) (hf := fun c60 => ?_)
    · -- then_t60
      exfalso
      simp at c60
    · -- else_t60
      refine JC.skip ?_
      refine JC.rs ?_
      refine Seq.buildSl (cs := []) (hsl := sl.sl_uint8) (hz := z.uint8) (hcs := rfl) (k := ?_); intro b62
      refine Seq.re (fun w h => Upd.boxOwn h (n := 0) (size := 1) At.z rfl (by omega)) ?_
      refine Seq.p rfl Ev.move ?_
      refine Seq.append (hsl := sl.sl_uint8) (he := el.uint8) (hH := At.z) (hsrc := fun w' hw => Src.rsl sl.sl_uint8 (hrb.up hw) (by omega) byteOne) (k := ?_); intro A64 c64
      rw [Nat.zero_add l.length, List.nil_append]
      refine Seq.call rfl (fun w' hw => by have h := textDecode (RAt.up (RAt.own (enc := byteEnc) (xs := l)) hw) hB (by omega) (hL.upd hw); rw [← hR] at h; exact h) (F := _) (by exact List.Perm.refl _) ?_
      rintro _ _ ⟨A65, c65, rfl, rfl⟩
      simp only [List.cons_append, List.nil_append]
      refine Seq.p rfl Ev.move ?_
      refine Seq.p rfl Ev.extract ?_
      refine Seq.p rfl Ev.extract ?_
      refine Seq.p rfl Ev.extract ?_
      refine Seq.p rfl Ev.extract ?_
      refine Seq.p rfl Ev.assign ?_
      refine Seq.p rfl Ev.assign ?_
      refine Seq.p rfl Ev.assign ?_
      refine Seq.p rfl Ev.assign ?_
      refine Seq.nil ?_
      refine JC.seq ?_
      refine JC.rs ?_
      refine Seq.p rfl Ev.move ?_
      refine Seq.p rfl Ev.eq ?_
      refine Seq.nil ?_
      first | refine JC.c (ht := fun c71 => ?_) (hf := fun c71 => ?_) | refine JC.cb (ht := fun c71 => ?_) (hf := fun c71 => ?_)
      · -- then_t71
        have hw0 : (readF l).why = 0 := by rw [← hR]; exact c71
        obtain ⟨g1, g2, g3⟩ := read_inv hB hw0
        have g4 := readF_ok_place hw0
        have g5 := encF_body g1
        rw [← hR] at g1 g2 g3 g4 g5
        have hcut : RSl byteEnc 1 w [] (subSl vb 0 R.size 1) (l.take R.size) := by
          have h3 := hrb.sub (lo := 0) (hi := R.size) (by omega) (by omega)
          rwa [List.drop_zero] at h3
        have hkz : R.kind.size ≤ 281474976710656 := by
          have h7 := (encF_ok g1).1
          unfold kindB at h7
          simp only [Bool.and_eq_true, Bool.or_eq_true, decide_eq_true_eq] at h7
          omega
        obtain ⟨lt, hlt⟩ : ∃ x, x = l.take R.size := ⟨_, rfl⟩
        rw [← hlt] at g1 hcut
        have hltl : lt.length ≤ 70368744177664 := by rw [hlt, List.length_take]; omega
        refine JC.seq ?_
        refine JC.rs ?_
        refine Seq.p rfl Ev.move ?_
        refine Seq.p rfl Ev.lt ?_
        refine Seq.p rfl Ev.move ?_
        refine Seq.orG (D := [74, 75, 76, 77, 78, 79]) (d := 74) (t := 79) (k := 5) (hn := fun h74 => ?_) (hx := ?_)
        · repeat (first | refine Seq.gn rfl rfl rfl rfl ?_ | refine Seq.gu rfl rfl rfl ?_)
          refine Seq.p rfl Ev.pickT ?_
          exact Seq.nil ⟨rfl, (by repeat (first | with_reducible exact Off.refl | refine Off.upd ?_ rfl | exact Off.mix | refine Off.mix2 ?_ rfl)), Look.here⟩
        apply Exists.intro
        refine ⟨fun h74 => ?_, fun u79 => ?_⟩
        · try simp only [decide_eq_true_eq, decide_eq_false_iff_not, Bool.and_eq_true, Bool.or_eq_true, Bool.not_eq_true', Bool.not_eq_false', Bool.or_eq_false_iff, Bool.and_eq_false_imp] at h74
          refine Seq.gy rfl rfl rfl ?_
          refine Seq.p rfl Ev.move ?_
          refine Seq.gy rfl rfl rfl ?_
          refine Seq.p rfl Ev.move ?_
          refine Seq.gy rfl rfl rfl ?_
          refine Seq.p rfl (Ev.lenSl sl.sl_uint8 (hr := hrb.r)) ?_
          refine Seq.gy rfl rfl rfl ?_
          refine Seq.p rfl Ev.gt ?_
          refine Seq.p rfl Ev.pickF ?_
          exact Seq.nil ⟨rfl, (by repeat (first | with_reducible exact Off.refl | refine Off.upd ?_ rfl | exact Off.mix | refine Off.mix2 ?_ rfl)), Look.here⟩
        refine Seq.nil ?_
        first | refine JC.c (ht := fun c79 => ?_) (hf := fun c79 => ?_) | refine JC.cb (ht := fun c79 => ?_) (hf := fun c79 => ?_)
        · -- then_t79
          exfalso
          simp only [Bool.or_eq_true, decide_eq_true_eq] at c79
          omega
        · -- else_t79
          refine JC.skip ?_
          refine JC.rs ?_
          refine Seq.p rfl Ev.move ?_
          refine Seq.p rfl Ev.move ?_
          refine Seq.call rfl (fun w' hw => by have h := textEncode (kind := R.kind) (RAt.up (RAt.own (enc := Tg.enc) (xs := R.tags)) hw) hkz hts g5 (hL.upd hw); rw [g1] at h; exact h) (F := _) (by exact List.Perm.refl _) ?_
          rintro _ _ ⟨A83, c83, rfl, rfl⟩
          simp only [List.cons_append, List.nil_append]
          refine Seq.p rfl Ev.move ?_
          refine Seq.p rfl Ev.extract ?_
          refine Seq.p rfl Ev.extract ?_
          refine Seq.p rfl Ev.assign ?_
          refine Seq.p rfl Ev.assign ?_
          refine Seq.nil ?_
          refine JC.rs ?_
          refine Seq.p rfl Ev.move ?_
          refine Seq.p rfl Ev.ne ?_
          refine Seq.p rfl Ev.move ?_
          refine Seq.orG (D := [88, 89, 90, 91, 92, 93, 94, 95]) (d := 88) (t := 95) (k := 7) (hn := fun h88 => ?_) (hx := ?_)
          · repeat (first | refine Seq.gn rfl rfl rfl rfl ?_ | refine Seq.gu rfl rfl rfl ?_)
            refine Seq.p rfl Ev.pickT ?_
            exact Seq.nil ⟨rfl, (by repeat (first | with_reducible exact Off.refl | refine Off.upd ?_ rfl | exact Off.mix | refine Off.mix2 ?_ rfl)), Look.here⟩
          apply Exists.intro
          refine ⟨fun h88 => ?_, fun u95 => ?_⟩
          · try simp only [decide_eq_true_eq, decide_eq_false_iff_not, Bool.and_eq_true, Bool.or_eq_true, Bool.not_eq_true', Bool.not_eq_false', Bool.or_eq_false_iff, Bool.and_eq_false_imp] at h88
            refine Seq.gy rfl rfl rfl ?_
            refine Seq.p rfl Ev.move ?_
            refine Seq.gy rfl rfl rfl ?_
            refine Seq.p rfl Ev.move ?_
            refine Seq.gy rfl rfl rfl ?_
            refine Seq.p rfl Ev.move ?_
            refine Seq.gy rfl rfl rfl ?_
            rw [g4]
            refine Seq.p rfl (Ev.cut sl.sl_uint8 (hr := hrb.r) (l := 0) (h := R.size) (hlo := rfl) (hhi := ⟨_, (by repeat (first | exact Look.here | apply Look.there (hne := rfl) | exact Look.const | apply Look.mix rfl | exact Look.arg0 | apply Look.args | exact Look.func))⟩)) ?_
            refine Seq.gy rfl rfl rfl ?_
            refine Seq.callP rfl (fun w hw => lawSame (RAt.up (RAt.own (enc := byteEnc) (xs := lt)) hw) (hcut.up hw)) ?_
            refine Seq.gy rfl rfl rfl ?_
            refine Seq.p rfl Ev.not ?_
            refine Seq.p rfl Ev.pickF ?_
            exact Seq.nil ⟨rfl, (by repeat (first | with_reducible exact Off.refl | refine Off.upd ?_ rfl | exact Off.mix | refine Off.mix2 ?_ rfl)), Look.here⟩
          refine Seq.nil ?_
          first | refine JC.c (ht := fun c95 => ?_) (hf := fun c95 => ?_) | refine JC.cb (ht := fun c95 => ?_) (hf := fun c95 => ?_)
          · -- then_t95
            exfalso
            simp at c95
          · -- else_t95
            refine JC.skip ?_
            refine JC.rs ?_
            refine Seq.call rfl (fun w' hw => by have h := textEncode (v := .slice none 0 0) (kind := ⟨#[48]⟩) (xs := []) (RSl.empty Tg.enc 2 w' []) (by decide) (fun t ht => by cases ht) one_body (hL.upd hw); rw [hone] at h; exact h) (F := _) (by exact List.Perm.refl _) ?_
            rintro _ _ ⟨A97, c97, rfl, rfl⟩
            simp only [List.cons_append, List.nil_append]
            refine Seq.p rfl Ev.move ?_
            refine Seq.p rfl Ev.extract ?_
            refine Seq.p rfl Ev.extract ?_
            refine Seq.p rfl Ev.assign ?_
            refine Seq.p rfl Ev.assign ?_
            refine Seq.nil ?_
            refine JC.rs ?_
            refine Seq.p rfl Ev.move ?_
            refine Seq.p rfl Ev.eq ?_
            refine Seq.p rfl Ev.move ?_
            refine Seq.andG (D := [102, 103, 104, 105, 106]) (d := 102) (t := 106) (k := 4) (hn := fun h102 => ?_) (hx := ?_)
            · repeat (first | refine Seq.gn rfl rfl rfl rfl ?_ | refine Seq.gu rfl rfl rfl ?_)
              refine Seq.p rfl Ev.pickF ?_
              exact Seq.nil ⟨rfl, (by repeat (first | with_reducible exact Off.refl | refine Off.upd ?_ rfl | exact Off.mix | refine Off.mix2 ?_ rfl)), Look.here⟩
            apply Exists.intro
            refine ⟨fun h102 => ?_, fun u106 => ?_⟩
            · try simp only [decide_eq_true_eq, decide_eq_false_iff_not, Bool.and_eq_true, Bool.or_eq_true, Bool.not_eq_true', Bool.not_eq_false', Bool.or_eq_false_iff, Bool.and_eq_false_imp] at h102
              refine Seq.gy rfl rfl rfl ?_
              refine Seq.p rfl Ev.move ?_
              refine Seq.gy rfl rfl rfl ?_
              refine Seq.p rfl (Ev.lenSl sl.sl_uint8 (hr := RAt.own (enc := byteEnc) (xs := one) (hs := by omega))) ?_
              refine Seq.gy rfl rfl rfl ?_
              refine Seq.p rfl Ev.gt ?_
              refine Seq.p rfl Ev.pickT ?_
              exact Seq.nil ⟨rfl, (by repeat (first | with_reducible exact Off.refl | refine Off.upd ?_ rfl | exact Off.mix | refine Off.mix2 ?_ rfl)), Look.here⟩
            refine Seq.p rfl Ev.assign ?_
            refine Seq.nil ?_
            refine JC.ret ?_
            -- return 0
            show retQ _ _ _ _ _ _ _ _
            refine ret1 (hp := Part.nil _) (hpost := ?_)
            have hop2 : (0 : Int) < (one.length : Int) := by omega
            simp [hop2, hop]
      · -- else_t71
        refine JC.skip ?_
        refine JC.rs ?_
        refine Seq.call rfl (fun w' hw => by have h := textEncode (v := .slice none 0 0) (kind := ⟨#[48]⟩) (xs := []) (RSl.empty Tg.enc 2 w' []) (by decide) (fun t ht => by cases ht) one_body (hL.upd hw); rw [hone] at h; exact h) (F := _) (by exact List.Perm.refl _) ?_
        rintro _ _ ⟨A97, c97, rfl, rfl⟩
        simp only [List.cons_append, List.nil_append]
        refine Seq.p rfl Ev.move ?_
        refine Seq.p rfl Ev.extract ?_
        refine Seq.p rfl Ev.extract ?_
        refine Seq.p rfl Ev.assign ?_
        refine Seq.p rfl Ev.assign ?_
        refine Seq.nil ?_
        refine JC.rs ?_
        refine Seq.p rfl Ev.move ?_
        refine Seq.p rfl Ev.eq ?_
        refine Seq.p rfl Ev.move ?_
        refine Seq.andG (D := [102, 103, 104, 105, 106]) (d := 102) (t := 106) (k := 4) (hn := fun h102 => ?_) (hx := ?_)
        · repeat (first | refine Seq.gn rfl rfl rfl rfl ?_ | refine Seq.gu rfl rfl rfl ?_)
          refine Seq.p rfl Ev.pickF ?_
          exact Seq.nil ⟨rfl, (by repeat (first | with_reducible exact Off.refl | refine Off.upd ?_ rfl | exact Off.mix | refine Off.mix2 ?_ rfl)), Look.here⟩
        apply Exists.intro
        refine ⟨fun h102 => ?_, fun u106 => ?_⟩
        · try simp only [decide_eq_true_eq, decide_eq_false_iff_not, Bool.and_eq_true, Bool.or_eq_true, Bool.not_eq_true', Bool.not_eq_false', Bool.or_eq_false_iff, Bool.and_eq_false_imp] at h102
          refine Seq.gy rfl rfl rfl ?_
          refine Seq.p rfl Ev.move ?_
          refine Seq.gy rfl rfl rfl ?_
          refine Seq.p rfl (Ev.lenSl sl.sl_uint8 (hr := RAt.own (enc := byteEnc) (xs := one) (hs := by omega))) ?_
          refine Seq.gy rfl rfl rfl ?_
          refine Seq.p rfl Ev.gt ?_
          refine Seq.p rfl Ev.pickT ?_
          exact Seq.nil ⟨rfl, (by repeat (first | with_reducible exact Off.refl | refine Off.upd ?_ rfl | exact Off.mix | refine Off.mix2 ?_ rfl)), Look.here⟩
        refine Seq.p rfl Ev.assign ?_
        refine Seq.nil ?_
        refine JC.ret ?_
        -- return 1
        show retQ _ _ _ _ _ _ _ _
        refine ret1 (hp := Part.nil _) (hpost := ?_)
        have hop2 : (0 : Int) < (one.length : Int) := by omega
        simp [hop2, hop]
  · -- else_t30
    refine JC.skip ?_
    refine JC.rs ?_
    refine Seq.buildSl (cs := []) (hsl := sl.sl_uint8) (hz := z.uint8) (hcs := rfl) (k := ?_); intro b62
    refine Seq.re (fun w h => Upd.boxOwn h (n := 0) (size := 1) At.z rfl (by omega)) ?_
    refine Seq.p rfl Ev.move ?_
    refine Seq.append (hsl := sl.sl_uint8) (he := el.uint8) (hH := At.z) (hsrc := fun w' hw => Src.rsl sl.sl_uint8 (hrb.up hw) (by omega) byteOne) (k := ?_); intro A64 c64
    rw [Nat.zero_add l.length, List.nil_append]
    refine Seq.call rfl (fun w' hw => by have h := textDecode (RAt.up (RAt.own (enc := byteEnc) (xs := l)) hw) hB (by omega) (hL.upd hw); rw [← hR] at h; exact h) (F := _) (by exact List.Perm.refl _) ?_
    rintro _ _ ⟨A65, c65, rfl, rfl⟩
    simp only [List.cons_append, List.nil_append]
    refine Seq.p rfl Ev.move ?_
    refine Seq.p rfl Ev.extract ?_
    refine Seq.p rfl Ev.extract ?_
    refine Seq.p rfl Ev.extract ?_
    refine Seq.p rfl Ev.extract ?_
    refine Seq.p rfl Ev.assign ?_
    refine Seq.p rfl Ev.assign ?_
    refine Seq.p rfl Ev.assign ?_
    refine Seq.p rfl Ev.assign ?_
    refine Seq.nil ?_
    refine JC.seq ?_
    refine JC.rs ?_
    refine Seq.p rfl Ev.move ?_
    refine Seq.p rfl Ev.eq ?_
    refine Seq.nil ?_
    first | refine JC.c (ht := fun c71 => ?_) (hf := fun c71 => ?_) | refine JC.cb (ht := fun c71 => ?_) (hf := fun c71 => ?_)
    · -- then_t71
      have hw0 : (readF l).why = 0 := by rw [← hR]; exact c71
      obtain ⟨g1, g2, g3⟩ := read_inv hB hw0
      have g4 := readF_ok_place hw0
      have g5 := encF_body g1
      rw [← hR] at g1 g2 g3 g4 g5
      have hcut : RSl byteEnc 1 w [] (subSl vb 0 R.size 1) (l.take R.size) := by
        have h3 := hrb.sub (lo := 0) (hi := R.size) (by omega) (by omega)
        rwa [List.drop_zero] at h3
      have hkz : R.kind.size ≤ 281474976710656 := by
        have h7 := (encF_ok g1).1
        unfold kindB at h7
        simp only [Bool.and_eq_true, Bool.or_eq_true, decide_eq_true_eq] at h7
        omega
      obtain ⟨lt, hlt⟩ : ∃ x, x = l.take R.size := ⟨_, rfl⟩
      rw [← hlt] at g1 hcut
      have hltl : lt.length ≤ 70368744177664 := by rw [hlt, List.length_take]; omega
      refine JC.seq ?_
      refine JC.rs ?_
      refine Seq.p rfl Ev.move ?_
      refine Seq.p rfl Ev.lt ?_
      refine Seq.p rfl Ev.move ?_
      refine Seq.orG (D := [74, 75, 76, 77, 78, 79]) (d := 74) (t := 79) (k := 5) (hn := fun h74 => ?_) (hx := ?_)
      · repeat (first | refine Seq.gn rfl rfl rfl rfl ?_ | refine Seq.gu rfl rfl rfl ?_)
        refine Seq.p rfl Ev.pickT ?_
        exact Seq.nil ⟨rfl, (by repeat (first | with_reducible exact Off.refl | refine Off.upd ?_ rfl | exact Off.mix | refine Off.mix2 ?_ rfl)), Look.here⟩
      apply Exists.intro
      refine ⟨fun h74 => ?_, fun u79 => ?_⟩
      · try simp only [decide_eq_true_eq, decide_eq_false_iff_not, Bool.and_eq_true, Bool.or_eq_true, Bool.not_eq_true', Bool.not_eq_false', Bool.or_eq_false_iff, Bool.and_eq_false_imp] at h74
        refine Seq.gy rfl rfl rfl ?_
        refine Seq.p rfl Ev.move ?_
        refine Seq.gy rfl rfl rfl ?_
        refine Seq.p rfl Ev.move ?_
        refine Seq.gy rfl rfl rfl ?_
        refine Seq.p rfl (Ev.lenSl sl.sl_uint8 (hr := hrb.r)) ?_
        refine Seq.gy rfl rfl rfl ?_
        refine Seq.p rfl Ev.gt ?_
        refine Seq.p rfl Ev.pickF ?_
        exact Seq.nil ⟨rfl, (by repeat (first | with_reducible exact Off.refl | refine Off.upd ?_ rfl | exact Off.mix | refine Off.mix2 ?_ rfl)), Look.here⟩
      refine Seq.nil ?_
      first | refine JC.c (ht := fun c79 => ?_) (hf := fun c79 => ?_) | refine JC.cb (ht := fun c79 => ?_) (hf := fun c79 => ?_)
      · -- then_t79
        exfalso
        simp only [Bool.or_eq_true, decide_eq_true_eq] at c79
        omega
      · -- else_t79
        refine JC.skip ?_
        refine JC.rs ?_
        refine Seq.p rfl Ev.move ?_
        refine Seq.p rfl Ev.move ?_
        refine Seq.call rfl (fun w' hw => by have h := textEncode (kind := R.kind) (RAt.up (RAt.own (enc := Tg.enc) (xs := R.tags)) hw) hkz hts g5 (hL.upd hw); rw [g1] at h; exact h) (F := _) (by exact List.Perm.refl _) ?_
        rintro _ _ ⟨A83, c83, rfl, rfl⟩
        simp only [List.cons_append, List.nil_append]
        refine Seq.p rfl Ev.move ?_
        refine Seq.p rfl Ev.extract ?_
        refine Seq.p rfl Ev.extract ?_
        refine Seq.p rfl Ev.assign ?_
        refine Seq.p rfl Ev.assign ?_
        refine Seq.nil ?_
        refine JC.rs ?_
        refine Seq.p rfl Ev.move ?_
        refine Seq.p rfl Ev.ne ?_
        refine Seq.p rfl Ev.move ?_
        refine Seq.orG (D := [88, 89, 90, 91, 92, 93, 94, 95]) (d := 88) (t := 95) (k := 7) (hn := fun h88 => ?_) (hx := ?_)
        · repeat (first | refine Seq.gn rfl rfl rfl rfl ?_ | refine Seq.gu rfl rfl rfl ?_)
          refine Seq.p rfl Ev.pickT ?_
          exact Seq.nil ⟨rfl, (by repeat (first | with_reducible exact Off.refl | refine Off.upd ?_ rfl | exact Off.mix | refine Off.mix2 ?_ rfl)), Look.here⟩
        apply Exists.intro
        refine ⟨fun h88 => ?_, fun u95 => ?_⟩
        · try simp only [decide_eq_true_eq, decide_eq_false_iff_not, Bool.and_eq_true, Bool.or_eq_true, Bool.not_eq_true', Bool.not_eq_false', Bool.or_eq_false_iff, Bool.and_eq_false_imp] at h88
          refine Seq.gy rfl rfl rfl ?_
          refine Seq.p rfl Ev.move ?_
          refine Seq.gy rfl rfl rfl ?_
          refine Seq.p rfl Ev.move ?_
          refine Seq.gy rfl rfl rfl ?_
          refine Seq.p rfl Ev.move ?_
          refine Seq.gy rfl rfl rfl ?_
          rw [g4]
          refine Seq.p rfl (Ev.cut sl.sl_uint8 (hr := hrb.r) (l := 0) (h := R.size) (hlo := rfl) (hhi := ⟨_, (by repeat (first | exact Look.here | apply Look.there (hne := rfl) | exact Look.const | apply Look.mix rfl | exact Look.arg0 | apply Look.args | exact Look.func))⟩)) ?_
          refine Seq.gy rfl rfl rfl ?_
          refine Seq.callP rfl (fun w hw => lawSame (RAt.up (RAt.own (enc := byteEnc) (xs := lt)) hw) (hcut.up hw)) ?_
          refine Seq.gy rfl rfl rfl ?_
          refine Seq.p rfl Ev.not ?_
          refine Seq.p rfl Ev.pickF ?_
          exact Seq.nil ⟨rfl, (by repeat (first | with_reducible exact Off.refl | refine Off.upd ?_ rfl | exact Off.mix | refine Off.mix2 ?_ rfl)), Look.here⟩
        refine Seq.nil ?_
        first | refine JC.c (ht := fun c95 => ?_) (hf := fun c95 => ?_) | refine JC.cb (ht := fun c95 => ?_) (hf := fun c95 => ?_)
        · -- then_t95
          exfalso
          simp at c95
        · -- else_t95
          refine JC.skip ?_
          refine JC.rs ?_
          refine Seq.call rfl (fun w' hw => by have h := textEncode (v := .slice none 0 0) (kind := ⟨#[48]⟩) (xs := []) (RSl.empty Tg.enc 2 w' []) (by decide) (fun t ht => by cases ht) one_body (hL.upd hw); rw [hone] at h; exact h) (F := _) (by exact List.Perm.refl _) ?_
          rintro _ _ ⟨A97, c97, rfl, rfl⟩
          simp only [List.cons_append, List.nil_append]
          refine Seq.p rfl Ev.move ?_
          refine Seq.p rfl Ev.extract ?_
          refine Seq.p rfl Ev.extract ?_
          refine Seq.p rfl Ev.assign ?_
          refine Seq.p rfl Ev.assign ?_
          refine Seq.nil ?_
          refine JC.rs ?_
          refine Seq.p rfl Ev.move ?_
          refine Seq.p rfl Ev.eq ?_
          refine Seq.p rfl Ev.move ?_
          refine Seq.andG (D := [102, 103, 104, 105, 106]) (d := 102) (t := 106) (k := 4) (hn := fun h102 => ?_) (hx := ?_)
          · repeat (first | refine Seq.gn rfl rfl rfl rfl ?_ | refine Seq.gu rfl rfl rfl ?_)
            refine Seq.p rfl Ev.pickF ?_
            exact Seq.nil ⟨rfl, (by repeat (first | with_reducible exact Off.refl | refine Off.upd ?_ rfl | exact Off.mix | refine Off.mix2 ?_ rfl)), Look.here⟩
          apply Exists.intro
          refine ⟨fun h102 => ?_, fun u106 => ?_⟩
          · try simp only [decide_eq_true_eq, decide_eq_false_iff_not, Bool.and_eq_true, Bool.or_eq_true, Bool.not_eq_true', Bool.not_eq_false', Bool.or_eq_false_iff, Bool.and_eq_false_imp] at h102
            refine Seq.gy rfl rfl rfl ?_
            refine Seq.p rfl Ev.move ?_
            refine Seq.gy rfl rfl rfl ?_
            refine Seq.p rfl (Ev.lenSl sl.sl_uint8 (hr := RAt.own (enc := byteEnc) (xs := one) (hs := by omega))) ?_
            refine Seq.gy rfl rfl rfl ?_
            refine Seq.p rfl Ev.gt ?_
            refine Seq.p rfl Ev.pickT ?_
            exact Seq.nil ⟨rfl, (by repeat (first | with_reducible exact Off.refl | refine Off.upd ?_ rfl | exact Off.mix | refine Off.mix2 ?_ rfl)), Look.here⟩
          refine Seq.p rfl Ev.assign ?_
          refine Seq.nil ?_
          refine JC.ret ?_
          -- return 2
          show retQ _ _ _ _ _ _ _ _
          refine ret1 (hp := Part.nil _) (hpost := ?_)
          have hop2 : (0 : Int) < (one.length : Int) := by omega
          simp [hop2, hop]
    · -- else_t71
      refine JC.skip ?_
      refine JC.rs ?_
      refine Seq.call rfl (fun w' hw => by have h := textEncode (v := .slice none 0 0) (kind := ⟨#[48]⟩) (xs := []) (RSl.empty Tg.enc 2 w' []) (by decide) (fun t ht => by cases ht) one_body (hL.upd hw); rw [hone] at h; exact h) (F := _) (by exact List.Perm.refl _) ?_
      rintro _ _ ⟨A97, c97, rfl, rfl⟩
      simp only [List.cons_append, List.nil_append]
      refine Seq.p rfl Ev.move ?_
      refine Seq.p rfl Ev.extract ?_
      refine Seq.p rfl Ev.extract ?_
      refine Seq.p rfl Ev.assign ?_
      refine Seq.p rfl Ev.assign ?_
      refine Seq.nil ?_
      refine JC.rs ?_
      refine Seq.p rfl Ev.move ?_
      refine Seq.p rfl Ev.eq ?_
      refine Seq.p rfl Ev.move ?_
      refine Seq.andG (D := [102, 103, 104, 105, 106]) (d := 102) (t := 106) (k := 4) (hn := fun h102 => ?_) (hx := ?_)
      · repeat (first | refine Seq.gn rfl rfl rfl rfl ?_ | refine Seq.gu rfl rfl rfl ?_)
        refine Seq.p rfl Ev.pickF ?_
        exact Seq.nil ⟨rfl, (by repeat (first | with_reducible exact Off.refl | refine Off.upd ?_ rfl | exact Off.mix | refine Off.mix2 ?_ rfl)), Look.here⟩
      apply Exists.intro
      refine ⟨fun h102 => ?_, fun u106 => ?_⟩
      · try simp only [decide_eq_true_eq, decide_eq_false_iff_not, Bool.and_eq_true, Bool.or_eq_true, Bool.not_eq_true', Bool.not_eq_false', Bool.or_eq_false_iff, Bool.and_eq_false_imp] at h102
        refine Seq.gy rfl rfl rfl ?_
        refine Seq.p rfl Ev.move ?_
        refine Seq.gy rfl rfl rfl ?_
        refine Seq.p rfl (Ev.lenSl sl.sl_uint8 (hr := RAt.own (enc := byteEnc) (xs := one) (hs := by omega))) ?_
        refine Seq.gy rfl rfl rfl ?_
        refine Seq.p rfl Ev.gt ?_
        refine Seq.p rfl Ev.pickT ?_
        exact Seq.nil ⟨rfl, (by repeat (first | with_reducible exact Off.refl | refine Off.upd ?_ rfl | exact Off.mix | refine Off.mix2 ?_ rfl)), Look.here⟩
      refine Seq.p rfl Ev.assign ?_
      refine Seq.nil ?_
      refine JC.ret ?_
      -- return 3
      show retQ _ _ _ _ _ _ _ _
      refine ret1 (hp := Part.nil _) (hpost := ?_)
      have hop2 : (0 : Int) < (one.length : Int) := by omega
      simp [hop2, hop]
end Go.Rx
/- From the reading of a call's arguments to tags; from what a row lists to what the walks want. -/
namespace Go.Rx
open Go Go.RowKit
set_option linter.unusedVariables false
section
variable {H : Type} {enc : TypeId × Value → H} {P : Program} {w : World} {base : Nat} {held : Bool}
theorem weights_mem_all {e : TypeId} {n : Nat} : ∀ {ds : List (DataW H)} {d : DataW H}, d ∈ ds → n ∈ d.weights P e → n ∈ DataW.weightsAll P e ds
  | x :: r, d, hd, hn => by
    simp only [DataW.weightsAll, List.mem_append]
    rcases List.mem_cons.1 hd with rfl | hd
    · exact .inl hn
    · exact .inr (weights_mem_all hd hn)
/-- A slice of plain data, and what is told of each row by its reading. -/
theorem open_rows2 {α : Type} [Inhabited α] {en : α → List Value} {dec : List Value → α} {l : List Sort1} {t e : TypeId} {fuel : Nat} {cs : List Value} {x : DataW H × List MemPlace} (Q : List Value → Prop) (ht : P.underlying t = some (.slice e)) (hs : sorts P 20 e = some l) (hpos : 0 < P.bytesOf e)
    (hen : ∀ cs, areSorts l cs = true → en (dec cs) = cs) (hQ : ∀ fuel row y, DataW.trod enc P w base (fun _ => true) held fuel e row = some y → Light P e y.1 → areSorts l row = true → Q row)
    (h : DataW.trod enc P w base (fun _ => true) held fuel t cs = some x) (hl : Light P t x.1) :
    ∃ (A : Option Addr) (c : Nat) (xs : List α), cs = [.slice A xs.length c] ∧ RSl en l.length w [] (.slice A xs.length c) xs ∧ xs.length * P.bytesOf e ≤ reachBytes ∧ ∀ x ∈ xs, Q (en x) := by
  rcases DataW.trod_slice ht h with ⟨rfl, rfl⟩ | ⟨a, len, cap, elems, rest, n, rfl, rfl, rfl, hb, hlc, hcm, hel, hget, hsp, _⟩
  · exact ⟨none, 0, [], rfl, ⟨⟨none, 0, rfl, Nat.le_refl _, fun _ => rfl⟩, by simp, by simp, fun i hi => by simp at hi⟩, by simp, by simp⟩
  · have hw := hl ((elems.map (·.1)).length + (rest.map (·.1)).length |> (· * P.bytesOf e)) (by simp [DataW.weights, ht])
    have hrow : ∀ i, i < len → ∃ row, areSorts l row = true ∧ Q row ∧ ∀ j u, row[j]? = some u → w.cell? ((a.add (i * l.length)).add j) = some u := by
      intro i hi
      have h1 := hget i hi
      have h2 : i < elems.length := by omega
      rw [List.getElem?_eq_getElem h2, Option.bind_eq_some_iff] at h1
      obtain ⟨row, hr1, hr2⟩ := h1
      rw [sorts_cells hs] at hr1
      have g := trod_plain 20 e l hs n row _ hr2
      have hli : Light P e elems[i].1 := fun m hm => hl m (by
        simp only [DataW.weights, ht]
        refine List.mem_cons_of_mem _ (List.mem_append.2 (.inl ?_))
        exact weights_mem_all (List.mem_map.2 ⟨elems[i], List.getElem_mem _, rfl⟩) hm)
      exact ⟨row, g.1, hQ n row _ hr2 hli g.1, (cells?_get hr1).2⟩
    classical
    let f : Nat → α := fun i => if h : i < len then dec (Classical.choose (hrow i h)) else default
    have hf : ∀ i (h : i < len), en (f i) = Classical.choose (hrow i h) := by
      intro i h
      simp only [f, dif_pos h]
      exact hen _ (Classical.choose_spec (hrow i h)).1
    refine ⟨some a, cap, (List.range len).map f, by simp, ⟨⟨some a, cap, by simp, by simpa using hlc, by simp⟩, ?_, ?_, ?_⟩, ?_, ?_⟩
    · simp at hw ⊢
      have : len * 1 ≤ reachBytes := Nat.le_trans (Nat.mul_le_mul (by omega : len ≤ elems.length + rest.length) hpos) hw
      simp only [reachBytes] at this
      omega
    · intro x hx
      obtain ⟨i, hi, rfl⟩ := List.mem_map.1 hx
      have hi' : i < len := by simpa using hi
      rw [hf i hi']
      exact areSorts_length (Classical.choose_spec (hrow i hi')).1
    · intro i hi j u hu
      have hi' : i < len := by simpa using hi
      have e1 : ((List.range len).map f)[i]! = f i := by
        rw [getElem!_pos _ i hi]
        simp
      rw [e1, hf i hi'] at hu
      have := (Classical.choose_spec (hrow i hi')).2.2 j u hu
      rw [Addr.add_add] at this
      exact ⟨by simpa [sbase] using this, by simp⟩
    · simp at hw ⊢
      refine Nat.le_trans (Nat.mul_le_mul_right _ ?_) hw
      omega
    · intro x hx
      obtain ⟨i, hi, rfl⟩ := List.mem_map.1 hx
      have hi' : i < len := by simpa using hi
      rw [hf i hi']
      exact (Classical.choose_spec (hrow i hi')).2.1
end
def Tg.dec : List Value → Tg
  | [.int .i64 n, .string s] => ⟨n, s⟩
  | _ => default
theorem tg_sorts {cs : List Value} (h : areSorts [.int .i64, .str] cs = true) : ∃ n s, cs = [.int .i64 n, .string s] := by
  obtain ⟨c0, r0, rfl, h0, h⟩ := areSorts_cons h
  obtain ⟨c1, r1, rfl, h1, h⟩ := areSorts_cons h
  obtain rfl := areSorts_nil h
  obtain ⟨n0, rfl⟩ := isSort_int h0
  cases c1 <;> simp [isSort] at h1
  exact ⟨_, _, rfl⟩
theorem open_tags {H : Type} {enc : TypeId × Value → H} {W : World} {v : Value} {d : DataW H} {p : List MemPlace} (h : DataW.Trod enc Go.Proofs.Tryd.prog W 0 (fun _ => true) true 22 v d p) (hl : Light Go.Proofs.Tryd.prog 22 d) (hv : ∃ A n c, v = .slice A n c) :
    ∃ xs : List Tg, RSl Tg.enc 2 W [] v xs ∧ (∀ t ∈ xs, t.value.size ≤ 281474976710656) ∧ xs.length * 24 ≤ 140737488355328 := by
  obtain ⟨A, n, c, rfl⟩ := hv
  obtain ⟨fuel, hf⟩ := h
  obtain ⟨A2, c2, xs, h1, r1, l1, w1⟩ := open_rows2 (en := Tg.enc) (dec := Tg.dec) (fun row => ∀ n s, row = [.int .i64 n, .string s] → s.size ≤ reachBytes) Go.Proofs.Tryd.underlying22 so.api_Tag (by rw [byt.api_Tag]; decide) (fun cs h => by
    obtain ⟨n, s, rfl⟩ := tg_sorts h
    rfl) (fun fuel row y hy hly hso n s hrow => by
      obtain ⟨ys, m, _, rfl, _, hyl, hg⟩ := DataW.trod_struct Go.Proofs.Tryd.underlying30 hy
      have h1 : ys.length = 2 := hyl
      have h2 := hg 1 _ rfl
      have h3 : ys[1]? = some ys[1] := List.getElem?_eq_getElem (by omega)
      rw [h3] at h2
      obtain ⟨s', e1, e2, _⟩ := DataW.trod_string Go.Proofs.Tryd.underlying9 h2
      have h4 := light_field Go.Proofs.Tryd.underlying30 hly (i := 1) rfl h3
      have hc : (Go.Proofs.Tryd.prog.cellsOf 9) = 1 := by kernel_rfl
      have e3 : s' = s := by
        subst hrow
        have e1' : ([Value.int .i64 n, Value.string s].drop 1).take (Go.Proofs.Tryd.prog.cellsOf 9) = [.string s'] := e1
        rw [hc] at e1'
        simp at e1'
        exact e1'.symm
      subst e3
      have h5 := h4 s'.data.toList.length (by rw [e2]; simp [DataW.weights])
      simpa using h5) hf hl
  rw [byt.api_Tag] at l1
  have e : (Value.slice A n c).cells.toList = [.slice A n c] := rfl
  rw [e] at h1
  rw [← (List.cons.inj h1).1] at r1
  refine ⟨xs, r1, fun t ht => ?_, by simp only [reachBytes] at l1; omega⟩
  have := w1 t ht _ _ rfl
  simp only [reachBytes] at this
  omega
end Go.Rx
namespace Go.Proofs.YtcggppjpnepoiaaDoor
open Go Go.RowKit Go.Rx Go.ChangeAt
set_option linter.unusedVariables false
theorem gSyn : Go.Proofs.Tryd.prog.globalNamed "strconv.ErrSyntax" = some 1 := by kernel_rfl
theorem gRng : Go.Proofs.Tryd.prog.globalNamed "strconv.ErrRange" = some 2 := by kernel_rfl
theorem gTab : Go.Proofs.Tryd.prog.globalNamed "internal/strconv.uint64pow10" = some 3 := by kernel_rfl
theorem gSynT : (Go.Proofs.Tryd.prog.globals[1]?).map (·.type) = some 68 := by kernel_rfl
theorem gRngT : (Go.Proofs.Tryd.prog.globals[2]?).map (·.type) = some 68 := by kernel_rfl
theorem gTabT : (Go.Proofs.Tryd.prog.globals[3]?).map (·.type) = some 135 := by kernel_rfl
theorem cells146 : Go.Proofs.Tryd.prog.cellsOf 146 = 1 := by kernel_rfl
theorem cells9 : Go.Proofs.Tryd.prog.cellsOf 9 = 1 := by kernel_rfl
theorem cells25 : Go.Proofs.Tryd.prog.cellsOf 25 = 1 := by kernel_rfl
theorem cells135 : Go.Proofs.Tryd.prog.cellsOf 135 = 20 := by kernel_rfl
theorem starErr : "*" ++ "errors.errorString" = "*errors.errorString" := by decide
theorem rowErr (u : TypeId) (h : Go.Proofs.Tryd.prog.typeName? 3 u = some "*errors.errorString") : u = 144 :=
  typeName_ptr_named (nm := "errors.errorString") (by rw [starErr]; kernel_rfl) (by kernel_rfl) (by decide) u (by rw [starErr]; exact h)
/-- What the rows of this seat list. -/
def theLaid : List (String × DataW Unit) := [("math/bits.deBruijn32tab", Rows.laid_math_bits_deBruijn32tab), ("math/bits.deBruijn64tab", Rows.laid_math_bits_deBruijn64tab), ("internal/strconv.uint64pow10", Rows.laid_internal_strconv_uint64pow10), ("strconv.ErrRange", Rows.laid_strconv_ErrRange), ("strconv.ErrSyntax", Rows.laid_strconv_ErrSyntax)]
theorem laid_of_met {W : World} (h : laidMet Go.Proofs.Tryd.prog theLaid W) : Laid W := by
  have h3 := h.tail.tail
  have hT : Lib.TabIs Go.Proofs.Tryd.prog W "internal/strconv.uint64pow10" .u64 Lib.pow10Tab := Lib.tabIs_of_head (zs := Lib.pow10Tab) gTab gTabT Go.Proofs.Tryd.underlying135 Go.Proofs.Tryd.underlying25 cells25 cells135 h3
  obtain ⟨a0, s0, hv0, -, -, -⟩ := laid_sentinel h3.tail gRng gRngT Go.Proofs.Tryd.underlying68 rowErr Go.Proofs.Tryd.underlying144 Go.Proofs.Tryd.underlying146 rfl rfl Go.Proofs.Tryd.underlying9 cells146 cells9
  obtain ⟨a1, s1, hv1, -, -, -⟩ := laid_sentinel h3.tail.tail gSyn gSynT Go.Proofs.Tryd.underlying68 rowErr Go.Proofs.Tryd.underlying144 Go.Proofs.Tryd.underlying146 rfl rfl Go.Proofs.Tryd.underlying9 cells146 cells9
  exact ⟨hT, ⟨_, _, hv1⟩, ⟨_, _, hv0⟩⟩
theorem met_plain {W : World} (h : laidMetH Go.Proofs.Tryd.prog theLaid W) : laidMet Go.Proofs.Tryd.prog theLaid W := h
end Go.Proofs.YtcggppjpnepoiaaDoor
namespace Go.Proofs.YtcggppjpnepoiaaDoor
open Go Go.RowKit Go.Rx Go.ChangeAt
theorem Tryd.own : ownKnob Go.Proofs.Tryd.prog.godebug = none := by kernel_rfl
theorem Tryd.laidOut : laidOutB Go.Proofs.Tryd.prog = true := by kernel_rfl
/-- A listed row of numbers as cells. -/
def tabCells : DataW Unit → Array Value
  | .agg l => (l.map fun
    | .lit (.int k n) => Value.int k n
    | _ => .nilIface).toArray
  | _ => #[]
def synS : ByteArray := { data := #[105, 110, 118, 97, 108, 105, 100, 32, 115, 121, 110, 116, 97, 120] }
def rngS : ByteArray := { data := #[118, 97, 108, 117, 101, 32, 111, 117, 116, 32, 111, 102, 32, 114, 97, 110, 103, 101] }
/-- So many blocks has the settled world. -/
noncomputable def low : Nat := (World.holding Go.Proofs.Tryd.prog default ⟨#[], #[], []⟩).heap.size
def setC (cs : Array Value) : Obj → Obj
  | .cells _ t frozen => .cells cs t frozen
  | o => o
/-- A settled world that holds what the rows list. -/
noncomputable def laidWorld (os : Os) : World :=
  let w0 := World.holding Go.Proofs.Tryd.prog os ⟨#[.cells #[.string synS] 146, .cells #[.string rngS] 146], #[], []⟩
  { w0 with heap := ((((w0.heap.modify 1 (setC #[.iface 144 (.pointer (some ⟨low, 0, none⟩))])).modify 2 (setC #[.iface 144 (.pointer (some ⟨low + 1, 0, none⟩))])).modify 3 (setC (tabCells Rows.laid_internal_strconv_uint64pow10))).modify 4 (setC (tabCells Rows.laid_math_bits_deBruijn32tab))).modify 5 (setC (tabCells Rows.laid_math_bits_deBruijn64tab)) }
theorem laidWorld_met (os : Os) (args : Array Value) : laidMetH Go.Proofs.Tryd.prog theLaid ((laidWorld os).forCall (fun _ _ => 0) ⟨#[], args, []⟩).memory :=
  show laidMet Go.Proofs.Tryd.prog theLaid _ from laidMet_of_run' 8 (by kernel_rfl) (by kernel_rfl)
end Go.Proofs.YtcggppjpnepoiaaDoor
/- A reader's calls: what it holds, Feed, where the next line may begin. -/
namespace Go.Rx
open Go Go.RowKit Go.Lib Go.Proofs.YtcggppjpnepoiaaDoor
set_option linter.unusedVariables false
set_option linter.unusedSimpArgs false
def feedF (h b : List Int) : List Int × Int := if 65536 < h.length + b.length then (h, 2) else (h ++ b, 0)
/-- May a line begin at a place? -/
def footAt (h : List Int) (i : Nat) : Bool := decide (h[i]! = 56) && (decide (i + 1 = h.length) || decide (h[i + 1]! = 61))
def footF (h : List Int) (i : Nat) : Nat :=
  if i < h.length then (if footAt h i = true then i else footF h (i + 1)) else h.length
termination_by h.length - i
theorem footF_hit {h : List Int} {i : Nat} (hi : i < h.length) (hf : footAt h i = true) : footF h i = i := by rw [footF, if_pos hi, if_pos hf]
theorem footF_step {h : List Int} {i : Nat} (hi : i < h.length) (hf : footAt h i = false) : footF h i = footF h (i + 1) := by rw [footF, if_pos hi, if_neg (by rw [hf]; decide)]
theorem footF_end {h : List Int} {i : Nat} (hi : ¬ i < h.length) : footF h i = h.length := by rw [footF, if_neg hi]
theorem footF_le (h : List Int) : ∀ i, footF h i ≤ h.length := by
  intro i
  generalize hd : h.length - i = d
  induction d using Nat.strongRecOn generalizing i with
  | _ d ih =>
    by_cases hi : i < h.length
    · cases hf : footAt h i with
      | true => rw [footF_hit hi hf]; omega
      | false => rw [footF_step hi hf]; exact ih (h.length - (i + 1)) (by omega) (i + 1) rfl
    · rw [footF_end hi]
      exact Nat.le_refl _
theorem footF_ge {h : List Int} : ∀ {i}, i ≤ h.length → i ≤ footF h i := by
  intro i hi
  generalize hd : h.length - i = d
  induction d using Nat.strongRecOn generalizing i with
  | _ d ih =>
    by_cases h1 : i < h.length
    · cases hf : footAt h i with
      | true => rw [footF_hit h1 hf]; exact Nat.le_refl _
      | false => rw [footF_step h1 hf]; exact Nat.le_trans (Nat.le_succ _) (ih (h.length - (i + 1)) (by omega) (by omega) rfl)
    · rw [footF_end h1]
      exact hi
theorem footF_first {h : List Int} {i : Nat} : ∀ {j : Nat}, j ≤ i → i < h.length → footAt h i = true → (∀ k, j ≤ k → k < i → footAt h k = false) → footF h j = i := by
  intro j hj hi hf hn
  generalize hd : i - j = d
  induction d generalizing j with
  | zero => obtain rfl : j = i := by omega
            exact footF_hit hi hf
  | succ d ih =>
    rw [footF_step (by omega) (hn j (Nat.le_refl _) (by omega))]
    exact ih (by omega) (fun k h1 h2 => hn k (by omega) h2) (by omega)
theorem footF_none {h : List Int} : ∀ {j : Nat}, j ≤ h.length → (∀ k, j ≤ k → k < h.length → footAt h k = false) → footF h j = h.length := by
  intro j hj hn
  generalize hd : h.length - j = d
  induction d generalizing j with
  | zero => exact footF_end (by omega)
  | succ d ih =>
    rw [footF_step (by omega) (hn j (Nat.le_refl _) (by omega))]
    exact ih (by omega) (fun k h1 h2 => hn k (by omega) h2) (by omega)
structure NextA where
  held : List Int
  kind : ByteArray
  tags : List Tg
  ok : Bool
  why : Int
def nextF (h : List Int) : NextA :=
  if (readF h).why = 20 then ⟨h, ⟨#[]⟩, [], false, 0⟩
  else if (readF h).size ≠ 0 then ⟨h.drop (readF h).size, (readF h).kind, (readF h).tags, decide ((readF h).why = 0), (readF h).why⟩
  else ⟨h.drop (footF h 1), ⟨#[]⟩, [], false, (readF h).why⟩
abbrev readerC (b : Nat) (v : Value) : Chunk := .box b 88 [v]
/-- Laid, and the library's own number is there. -/
structure Laid2 (w : World) : Prop where
  laid : Laid w
  max : ∃ m, w.cell? ⟨0, 0, none⟩ = some (.int .i64 m)
theorem Laid2.up {w0 w : World} {H : List Chunk} (h : Laid2 w0) (hu : Upd w0 w [] H) : Laid2 w :=
  ⟨h.laid.upd hu, h.max.imp fun m hm => Cell.up (Cs := []) ⟨hm, by simp⟩ hu⟩
/-! the bytes '8=' -/
def eightL : List Int := [56, 61]
theorem footAt_occ {h : List Int} {k : Nat} (hk : k + 1 < h.length) : footAt h k = (decide (h[k]! = 56) && decide (h[k + 1]! = 61)) := by
  unfold footAt
  rw [show decide (k + 1 = h.length) = false from decide_eq_false (by omega), Bool.false_or]
theorem occAt_foot {h : List Int} (hB : isBytes h) {k : Nat} : occAt (Lib.bytesOf h) (Lib.bytesOf eightL) k = (decide (k + 1 < h.length) && (decide (h[k]! = 56) && decide (h[k + 1]! = 61))) := by
  unfold occAt
  have e : (Lib.bytesOf h).drop k = Lib.bytesOf (h.drop k) := by simp [Lib.bytesOf]
  rw [e]
  have e2 : Lib.bytesOf eightL = [56, 61] := rfl
  rw [e2]
  have hb : ∀ n : Int, 0 ≤ n ∧ n ≤ 255 → ∀ c : Nat, c ≤ 255 → (((UInt8.ofNat c) == UInt8.ofNat n.toNat) = decide (n = (c : Int))) := by
    intro n hn c hc
    rw [Bool.eq_iff_iff, beq_iff_eq, decide_eq_true_eq]
    constructor
    · intro h
      have := congrArg UInt8.toNat h
      rw [UInt8.toNat_ofNat', UInt8.toNat_ofNat'] at this
      omega
    · intro h
      rw [h, Int.toNat_natCast]
  by_cases h1 : k + 1 < h.length
  · have hd : h.drop k = h[k]! :: h[k + 1]! :: h.drop (k + 2) := by
      rw [List.drop_eq_getElem_cons (by omega), List.drop_eq_getElem_cons h1, getElem!_pos h k (by omega), getElem!_pos h (k + 1) h1]
    rw [hd]
    have g1 := isBytes_get hB (i := k) (by omega)
    have g2 := isBytes_get hB (i := k + 1) h1
    show ((56 : UInt8) == UInt8.ofNat (h[k]!).toNat && ((61 : UInt8) == UInt8.ofNat (h[k + 1]!).toNat && true)) = _
    have e3 := hb h[k]! g1 56 (by decide)
    have e4 := hb h[k + 1]! g2 61 (by decide)
    rw [decide_eq_true h1, Bool.true_and, Bool.and_true]
    have e5 : ((56 : UInt8) == UInt8.ofNat (h[k]!).toNat) = decide (h[k]! = 56) := e3
    have e6 : ((61 : UInt8) == UInt8.ofNat (h[k + 1]!).toNat) = decide (h[k + 1]! = 61) := e4
    rw [e5, e6]
  · rw [decide_eq_false h1, Bool.false_and]
    by_cases h2 : k < h.length
    · have hd : h.drop k = [h[k]!] := by
        rw [List.drop_eq_getElem_cons h2, List.drop_eq_nil_of_le (by omega), getElem!_pos h k h2]
      rw [hd]
      show ((56 : UInt8) == UInt8.ofNat (h[k]!).toNat && false) = false
      rw [Bool.and_false]
    · rw [List.drop_eq_nil_of_le (by omega)]
      rfl
theorem index_some {s sub : List UInt8} {i : Nat} (h : Lib.index s sub = (i : Int)) : i ≤ s.length ∧ occAt s sub i = true ∧ ∀ j < i, occAt s sub j = false := by
  induction s generalizing i with
  | nil =>
    unfold Lib.index at h
    split at h
    · rename_i he
      have : i = 0 := by omega
      subst this
      have : sub = [] := by simpa using he
      subst this
      exact ⟨Nat.le_refl _, rfl, fun j hj => by omega⟩
    · omega
  | cons b l ih =>
    unfold Lib.index at h
    split at h
    · rename_i hp
      have : i = 0 := by omega
      subst this
      exact ⟨Nat.zero_le _, hp, fun j hj => by omega⟩
    · rename_i hp
      split at h
      · omega
      · have hge := Lib.index_ge l sub
        have hne : Lib.index l sub ≠ -1 := by
          rename_i hq
          simpa using hq
        obtain ⟨j, rfl⟩ : ∃ j, i = j + 1 := ⟨i - 1, by omega⟩
        obtain ⟨h1, h2, h3⟩ := ih (i := j) (by omega)
        refine ⟨by simp; omega, h2, fun k hk => ?_⟩
        cases k with
        | zero => exact Bool.eq_false_iff.2 hp
        | succ k => exact h3 k (by omega)
theorem index_none {s sub : List UInt8} (h : Lib.index s sub = -1) : ∀ j, occAt s sub j = false := by
  induction s with
  | nil =>
    unfold Lib.index at h
    split at h
    · omega
    · rename_i he
      intro j
      unfold occAt
      rw [List.drop_nil]
      cases sub with
      | nil => simp at he
      | cons c r => rfl
  | cons b l ih =>
    unfold Lib.index at h
    split at h
    · omega
    · rename_i hp
      have hge := Lib.index_ge l sub
      split at h
      · rename_i hq
        have hq' : Lib.index l sub = -1 := by simpa using hq
        intro j
        cases j with
        | zero => exact Bool.eq_false_iff.2 hp
        | succ j => exact ih hq' j
      · omega
/-- What the program's 'foot' reckons is where the next line may begin. -/
theorem foot_some {h : List Int} (hB : isBytes h) {i : Nat} (hne : h ≠ []) (hi : Lib.index (Lib.bytesOf (h.drop 1)) (Lib.bytesOf eightL) = (i : Int)) : footF h 1 = 1 + i := by
  obtain ⟨h1, h2, h3⟩ := index_some hi
  have hlen : 0 < h.length := List.length_pos_iff.2 hne
  have key : ∀ k, occAt (Lib.bytesOf (h.drop 1)) (Lib.bytesOf eightL) k = (decide (1 + k + 1 < h.length) && (decide (h[1 + k]! = 56) && decide (h[1 + k + 1]! = 61))) := by
    intro k
    rw [occAt_foot (isBytes_drop hB)]
    by_cases hk : k + 1 < (h.drop 1).length
    · rw [get_drop (by rw [List.length_drop] at hk; omega), get_drop (by rw [List.length_drop] at hk; omega), decide_eq_true hk, decide_eq_true (show 1 + k + 1 < h.length by rw [List.length_drop] at hk; omega)]
      rw [show 1 + (k + 1) = 1 + k + 1 by omega]
    · rw [decide_eq_false hk, decide_eq_false (show ¬ 1 + k + 1 < h.length by rw [List.length_drop] at hk; omega), Bool.false_and, Bool.false_and]
  rw [key] at h2
  have hlt : 1 + i + 1 < h.length := by
    rw [Bool.and_eq_true, decide_eq_true_eq] at h2
    exact h2.1
  refine footF_first (by omega) (by omega) ?_ ?_
  · rw [footAt_occ hlt]
    rw [Bool.and_eq_true] at h2
    exact h2.2
  · intro k hk1 hk2
    have := h3 (k - 1) (by omega)
    rw [key, show 1 + (k - 1) = k by omega, decide_eq_true (by omega : k + 1 < h.length), Bool.true_and] at this
    rw [footAt_occ (by omega)]
    exact this
theorem foot_miss {h : List Int} (hB : isBytes h) (hne : h ≠ []) (hi : Lib.index (Lib.bytesOf (h.drop 1)) (Lib.bytesOf eightL) = -1) :
    footF h 1 = if h[h.length - 1]! = 56 ∧ 1 < h.length then h.length - 1 else h.length := by
  have h3 := index_none hi
  have hlen : 0 < h.length := List.length_pos_iff.2 hne
  have key : ∀ k, 1 ≤ k → k + 1 < h.length → footAt h k = false := by
    intro k hk1 hk2
    have h4 := h3 (k - 1)
    rw [occAt_foot (isBytes_drop hB), get_drop (by omega), get_drop (by omega), show 1 + (k - 1) = k by omega, show 1 + (k - 1 + 1) = k + 1 by omega, decide_eq_true (show k - 1 + 1 < (h.drop 1).length by rw [List.length_drop]; omega), Bool.true_and] at h4
    rw [footAt_occ hk2]
    exact h4
  by_cases hc : h[h.length - 1]! = 56 ∧ 1 < h.length
  · rw [if_pos hc]
    refine footF_first (by omega) (by omega) ?_ (fun k h1 h2 => key k h1 (by omega))
    unfold footAt
    rw [decide_eq_true hc.1, decide_eq_true (show h.length - 1 + 1 = h.length by omega)]
    rfl
  · rw [if_neg hc]
    refine footF_none (by omega) (fun k h1 h2 => ?_)
    by_cases hk : k + 1 < h.length
    · exact key k h1 hk
    · obtain rfl : k = h.length - 1 := by omega
      unfold footAt
      rw [decide_eq_false (fun h => hc ⟨h, by omega⟩), Bool.false_and]
end Go.Rx
/- A reader's calls, walked: NewReader, Waiting, Feed, drop, foot. -/
namespace Go.Rx
open Go Go.RowKit Go.Lib Go.Proofs.YtcggppjpnepoiaaDoor
set_option linter.unusedVariables false
set_option linter.unusedSimpArgs false
theorem readerNew {w : World} : Spec Go.Proofs.Tryd.prog 25 #[] w [] (fun u H' => ∃ b, u = .pointer (some ⟨b, 0, none⟩) ∧ H' = [readerC b (.slice none 0 0)]) := by
  refine Spec.enter (fn := Go.Proofs.Tryd.f25) (n := 3) [] Go.Proofs.Tryd.func25 (by kernel_rfl) rfl Go.Proofs.Tryd.ntmps25 Go.Proofs.Tryd.results25 rfl (Own.nil _) ?_
  refine JC.rs ?_
  refine Seq.p rfl Ev.assign ?_
  refine Seq.nil ?_
  refine JC.rs ?_
  refine Seq.p rfl (Ev.buildN [_] pl.text_Reader z.text_Reader) ?_
  refine Seq.box (cs := [_]) (k := ?_); intro b2
  refine Seq.p rfl Ev.assign ?_
  refine Seq.nil ?_
  refine JC.ret ?_
  -- return 0
  show retQ _ _ _ _ _ _ _ _
  refine ret1 (hp := Part.refl _) (hpost := ?_)
  exact ⟨b2, rfl, rfl⟩
theorem readerWaiting {w : World} {b : Nat} {v : Value} {h : List Int} (hc : Cell w [] ⟨b, 0, none⟩ v) (hr : RSl byteEnc 1 w [] v h) :
    Spec Go.Proofs.Tryd.prog 26 #[.pointer (some ⟨b, 0, none⟩)] w [] (fun u _ => u = .int .i64 (h.length : Int)) := by
  refine Spec.enter (fn := Go.Proofs.Tryd.f26) (n := 8) [.pointer (some ⟨b, 0, none⟩)] Go.Proofs.Tryd.func26 (by kernel_rfl) rfl Go.Proofs.Tryd.ntmps26 Go.Proofs.Tryd.results26 rfl (Own.nil _) ?_
  refine JC.rs ?_
  refine Seq.p rfl Ev.assign ?_
  refine Seq.nil ?_
  refine JC.rs ?_
  refine Seq.p rfl Ev.move ?_
  refine Seq.p rfl Ev.nilP ?_
  refine Seq.p rfl (Ev.faB fd.text_Reader_0) ?_
  refine Seq.p rfl (Ev.ldS sc.sl_uint8 (Cells.cell hc)) ?_
  refine Seq.p rfl (Ev.lenSl sl.sl_uint8 (hr := hr.r)) ?_
  refine Seq.p rfl Ev.assign ?_
  refine Seq.nil ?_
  refine JC.ret ?_
  -- return 0
  show retQ _ _ _ _ _ _ _ _
  refine ret1 (hp := Part.nil _) (hpost := ?_)
  rfl
set_option maxHeartbeats 1000000 in
set_option maxRecDepth 100000 in
theorem readerFeed {w : World} {b c : Nat} {A : Option Addr} {vc : Value} {h l : List Int} (hr : RSl byteEnc 1 w [readerC b (.slice A h.length c), bytesC (.slice A h.length c) h] vc l) (ho : Own w [readerC b (.slice A h.length c), bytesC (.slice A h.length c) h]) (hh : h.length ≤ 65536) :
    Spec Go.Proofs.Tryd.prog 27 #[.pointer (some ⟨b, 0, none⟩), vc] w [readerC b (.slice A h.length c), bytesC (.slice A h.length c) h] (fun u H' => ∃ A' c', u = .int .i64 (feedF h l).2 ∧ H' = [readerC b (.slice A' (feedF h l).1.length c'), bytesC (.slice A' (feedF h l).1.length c') (feedF h l).1]) := by
  refine Spec.enter (fn := Go.Proofs.Tryd.f27) (n := 23) [.pointer (some ⟨b, 0, none⟩), vc] Go.Proofs.Tryd.func27 (by kernel_rfl) rfl Go.Proofs.Tryd.ntmps27 Go.Proofs.Tryd.results27 rfl ho ?_
  refine JC.rs ?_
  refine Seq.p rfl Ev.assign ?_
  refine Seq.nil ?_
  refine JC.seq ?_
  refine JC.rs ?_
  refine Seq.p rfl Ev.move ?_
  refine Seq.p rfl (Ev.lenSl sl.sl_uint8 (hr := hr.r)) ?_
  refine Seq.p rfl Ev.move ?_
  refine Seq.p rfl Ev.nilP ?_
  refine Seq.p rfl (Ev.faB fd.text_Reader_0) ?_
  refine Seq.p rfl (Ev.ldB sc.sl_uint8) ?_
  refine Seq.p rfl (Ev.lenSl sl.sl_uint8 (hr := RAt.own (enc := byteEnc) (xs := h))) ?_
  refine Seq.p rfl Ev.sub ?_
  refine Seq.p rfl Ev.gt ?_
  refine Seq.nil ?_
  first | refine JC.c (ht := fun c13 => ?_) (hf := fun c13 => ?_) | refine JC.cb (ht := fun c13 => ?_) (hf := fun c13 => ?_)
  · -- then_t13
    refine JC.rs ?_
    refine Seq.p rfl Ev.assign ?_
    refine Seq.nil ?_
    refine JC.ret ?_
    -- return 0
    show retQ _ _ _ _ _ _ _ _
    refine ret1 (hp := Part.refl _) (hpost := ?_)
    have e : feedF h l = (h, 2) := if_pos (by omega)
    rw [e]
    exact ⟨A, c, rfl, rfl⟩
  · -- else_t13
    refine JC.skip ?_
    refine JC.rs ?_
    refine Seq.p rfl Ev.move ?_
    refine Seq.p rfl Ev.move ?_
    refine Seq.p rfl Ev.nilP ?_
    refine Seq.p rfl (Ev.faB fd.text_Reader_0) ?_
    refine Seq.p rfl (Ev.ldB sc.sl_uint8) ?_
    refine Seq.p rfl Ev.move ?_
    refine Seq.append (hsl := sl.sl_uint8) (he := el.uint8) (hsrc := (fun w' hw => Src.rsl sl.sl_uint8 (hr.up hw) (by omega) byteOne)) (k := ?_); intro A20 c20
    refine Seq.p rfl Ev.nilP ?_
    refine Seq.p rfl (Ev.faB fd.text_Reader_0) ?_
    refine Seq.storeN [_] sz.sl_uint8 (k := ?_)
    refine Seq.nil ?_
    refine JC.rs ?_
    refine Seq.p rfl Ev.assign ?_
    refine Seq.nil ?_
    rw [← bytesC_append (.slice A20 (h.length + l.length) c20) h l _ rfl]
    refine JC.ret ?_
    -- return 1
    show retQ _ _ _ _ _ _ _ _
    refine ret1 (hp := Part.refl _) (hpost := ?_)
    have e : feedF h l = (h ++ l, 0) := if_neg (by omega)
    rw [e]
    exact ⟨A20, c20, rfl, by simp only [List.length_append]; rfl⟩
set_option maxHeartbeats 1000000 in
set_option maxRecDepth 100000 in
theorem cloneBytes {w : World} {A : Option Addr} {c : Nat} {l : List Int} (hr : RSl byteEnc 1 w [] (.slice A l.length c) l) (hl : l.length ≤ 140737488351232) :
    Spec Go.Proofs.Tryd.prog 64 #[.slice A l.length c] w [] (fun u H' => ∃ A' c', u = .slice A' l.length c' ∧ H' = [bytesC (.slice A' l.length c') l]) := by
  refine Spec.enter (fn := Go.Proofs.Tryd.f64) (n := 8) [.slice A l.length c] Go.Proofs.Tryd.func64 (by kernel_rfl) rfl Go.Proofs.Tryd.ntmps64 Go.Proofs.Tryd.results64 rfl (Own.nil _) ?_
  refine JC.re (fun w h => h.nilOwn 5 1) ?_
  refine JC.rs ?_
  refine Seq.p rfl Ev.assign ?_
  refine Seq.nil ?_
  refine JC.seq ?_
  refine JC.rs ?_
  refine Seq.p rfl Ev.move ?_
  refine Seq.p rfl (Ev.eqNilSl und.sl_uint8) ?_
  refine Seq.nil ?_
  first | refine JC.c (ht := fun c4 => ?_) (hf := fun c4 => ?_) | refine JC.cb (ht := fun c4 => ?_) (hf := fun c4 => ?_)
  · -- then_t4
    refine JC.rs ?_
    refine Seq.p rfl Ev.assign ?_
    refine Seq.nil ?_
    refine JC.ret ?_
    -- return 0
    show retQ _ _ _ _ _ _ _ _
    refine ret1 (hp := Part.refl _) (hpost := ?_)
    obtain rfl : l = [] := by obtain ⟨A', c', he, _, hA⟩ := hr.shape; cases he; exact hA (by cases A with | none => rfl | some a => cases c4)
    exact ⟨none, 0, rfl, rfl⟩
  · -- else_t4
    refine JC.skip ?_
    refine JC.rs ?_
    refine Seq.buildSl (cs := []) (hsl := sl.sl_uint8) (hz := z.uint8) (hcs := rfl) (k := ?_); intro b5
    refine Seq.re (fun w h => Upd.boxOwn h (n := 0) (size := 1) At.z rfl (by omega)) ?_
    refine Seq.p rfl Ev.move ?_
    refine Seq.append (hsl := sl.sl_uint8) (he := el.uint8) (hH := At.z) (hsrc := fun w' hw => Src.rsl sl.sl_uint8 (hr.up hw) (by omega) byteOne) (k := ?_); intro A7 c7
    rw [Nat.zero_add l.length, List.nil_append]
    refine Seq.p rfl Ev.assign ?_
    refine Seq.nil ?_
    refine JC.ret ?_
    -- return 1
    show retQ _ _ _ _ _ _ _ _
    refine ret1 (hp := Part.here (Part.nil _)) (hpost := ?_)
    exact ⟨A7, c7, rfl, rfl⟩
/-- A piece of bytes, cut at a place. -/
theorem cutTo {w0 w : World} {Cs H : List Chunk} {i n : Nat} {v : Value} {h : List Int} (hu : Upd w0 w Cs H) (hH : At H i (bytesC v h)) (hn : n ≤ h.length) : Upd w0 w Cs (H.set i (bytesC (subSl v n h.length 1) (h.drop n))) := by
  have h2 := Upd.reslice (enc := byteEnc) (lo := n) (hi := h.length) hu hH (fun _ => rfl) hn (Nat.le_refl _)
  rwa [List.take_of_length_le (by rw [List.length_drop]; exact Nat.le_refl _)] at h2
theorem subForm {A : Option Addr} {c n : Nat} {h : List Int} (hn : n ≤ h.length) : ∃ A2 c2, subSl (.slice A h.length c) n h.length 1 = .slice A2 (h.drop n).length c2 := ⟨_, _, by rw [List.length_drop]; rfl⟩
set_option maxHeartbeats 1000000 in
set_option maxRecDepth 100000 in
theorem readerDrop {w : World} {b n c : Nat} {A : Option Addr} {h : List Int} (ho : Own w [readerC b (.slice A h.length c), bytesC (.slice A h.length c) h]) (hh : h.length ≤ 65536) (hn : n ≤ h.length) :
    Spec Go.Proofs.Tryd.prog 43 #[.pointer (some ⟨b, 0, none⟩), .int .i64 (n : Int)] w [readerC b (.slice A h.length c), bytesC (.slice A h.length c) h] (fun u H' => ∃ A' c', H' = [readerC b (.slice A' (h.drop n).length c'), bytesC (.slice A' (h.drop n).length c') (h.drop n)]) := by
  obtain ⟨A2, c2, h2⟩ := subForm (A := A) (c := c) hn
  have hdl : (h.drop n).length ≤ 140737488351232 := by rw [List.length_drop]; omega
  refine Spec.enter (fn := Go.Proofs.Tryd.f43) (n := 14) [.pointer (some ⟨b, 0, none⟩), .int .i64 (n : Int)] Go.Proofs.Tryd.func43 (by kernel_rfl) rfl Go.Proofs.Tryd.ntmps43 Go.Proofs.Tryd.results43 rfl ho ?_
  refine JC.reg ?_
  refine Seq.p rfl Ev.move ?_
  refine Seq.p rfl Ev.move ?_
  refine Seq.p rfl Ev.nilP ?_
  refine Seq.p rfl (Ev.faB fd.text_Reader_0) ?_
  refine Seq.p rfl (Ev.ldB sc.sl_uint8) ?_
  refine Seq.p rfl Ev.move ?_
  refine Seq.p rfl (Ev.cut sl.sl_uint8 (hr := RAt.own (enc := byteEnc) (xs := h)) (l := n) (h := h.length) (hlo := ⟨_, (by repeat (first | exact Look.here | apply Look.there (hne := rfl) | exact Look.const | apply Look.mix rfl | exact Look.arg0 | apply Look.args | exact Look.func))⟩) (hhi := rfl)) ?_
  rw [h2]
  refine Seq.call rfl (fun w' hw => cloneBytes (by
    have h3 := (RAt.up (RAt.own (enc := byteEnc) (xs := h)) hw).sub (lo := n) (hi := h.length) hn (Nat.le_refl _)
    rw [List.take_of_length_le (by rw [List.length_drop]; exact Nat.le_refl _)] at h3
    exact h2 ▸ h3) hdl) (F := _) (List.Perm.refl _) ?_
  rintro _ _ ⟨A3, c3, rfl, rfl⟩
  simp only [List.cons_append, List.nil_append]
  refine Seq.p rfl Ev.nilP ?_
  refine Seq.p rfl (Ev.faB fd.text_Reader_0) ?_
  refine Seq.storeN [_] sz.sl_uint8 (k := ?_)
  refine Seq.nil ?_
  -- return 0
  first | show retQ _ _ _ _ _ .normal _ _ | (simp only [thenQ, blockQ, ↓reduceIte]; show retQ _ _ _ _ _ .normal _ _)
  exact ⟨[], [readerC b (.slice A3 (h.drop n).length c3), bytesC (.slice A3 (h.drop n).length c3) (h.drop n)], RVs.nil, (by repeat (first | exact Part.nil _ | refine Part.at (by repeat (first | exact At.z | apply At.s)) ?_)), A3, c3, rfl⟩
  skip
theorem indexEight {w : World} {a a2 : Addr} {c c2 : Nat} {l : List Int} (hr : RSl byteEnc 1 w [] (.slice (some a) l.length c) l) (hr2 : RSl byteEnc 1 w [] (.slice (some a2) 2 c2) eightL) (hB : isBytes l) (hl : l.length ≤ 65536) (hm : ∃ m, w.cell? ⟨0, 0, none⟩ = some (.int .i64 m)) :
    Spec Go.Proofs.Tryd.prog 65 #[.slice (some a) l.length c, .slice (some a2) 2 c2] w [] (fun u _ => u = .int .i64 (Lib.index (Lib.bytesOf l) (Lib.bytesOf eightL))) := by
  obtain ⟨A', c', hv, hcc, _⟩ := hr.shape
  cases hv
  obtain ⟨m, hm⟩ := hm
  have get : ∀ {l : List Int} {a : Addr} {n c : Nat}, RSl byteEnc 1 w [] (.slice (some a) n c) l → ∀ i, i < l.length → w.cell? (a.add i) = some (.int .u8 (l.getD i 0)) := by
    intro l a n c hr i hi
    have h1 := (hr.cell i hi 0 (.int .u8 l[i]!) rfl).1
    have e1 : l.getD i 0 = l[i]! := by rw [getElem!_pos l i hi]; simp [List.getD, hi]
    rw [e1]
    simpa [sbase] using h1
  refine spec_of_below ⟨Go.Proofs.Tryd.f65, Go.Proofs.Tryd.func65, by kernel_rfl, rfl⟩ ((Go.Proofs.Tryd.bytes_Index_at a a2 l.length c 2 c2 l eightL m w rfl rfl (fun x hx => by have := hB x hx; omega) (by decide) (get hr) (get hr2) hcc (by omega) (by decide) hm).mono ?_)
  rintro e w' ⟨rfl, q, rfl⟩
  exact ⟨rfl, ⟨rfl, rfl, rfl, Nat.le_refl _, fun _ _ => rfl⟩⟩
set_option maxHeartbeats 1000000 in
set_option maxRecDepth 100000 in
theorem readerFoot {w : World} {b c : Nat} {A : Option Addr} {h : List Int} (hc : Cell w [] ⟨b, 0, none⟩ (.slice A h.length c)) (hr : RSl byteEnc 1 w [] (.slice A h.length c) h) (hB : isBytes h) (hne : h ≠ []) (hh : h.length ≤ 65536) (hm : ∃ m, w.cell? ⟨0, 0, none⟩ = some (.int .i64 m)) :
    Spec Go.Proofs.Tryd.prog 44 #[.pointer (some ⟨b, 0, none⟩)] w [] (fun u _ => u = .int .i64 ((footF h 1 : Nat) : Int)) := by
  have hlen : 0 < h.length := List.length_pos_iff.2 hne
  obtain ⟨a, rfl⟩ : ∃ a, A = some a := by
    obtain ⟨A', c', he, _, hA⟩ := hr.shape
    cases he
    cases A with
    | none => exact absurd (hA rfl) hne
    | some a => exact ⟨a, rfl⟩
  obtain ⟨a2, c2, h2⟩ : ∃ a2 c2, subSl (.slice (some a) h.length c) 1 h.length 1 = .slice (some a2) (h.drop 1).length c2 := by
    rw [List.length_drop]
    simp only [subSl]
    split
    · exact ⟨_, _, rfl⟩
    · exact ⟨_, _, rfl⟩
  have hsub : RSl byteEnc 1 w [] (.slice (some a2) (h.drop 1).length c2) (h.drop 1) := by
    have h3 := hr.sub (lo := 1) (hi := h.length) (by omega) (Nat.le_refl _)
    rw [List.take_of_length_le (by rw [List.length_drop]; exact Nat.le_refl _), h2] at h3
    exact h3
  have hdl : (h.drop 1).length ≤ 65536 := by rw [List.length_drop]; omega
  have hmax : ∀ {w' : World} {H : List Chunk}, Upd w w' [] H → ∃ m, w'.cell? ⟨0, 0, none⟩ = some (.int .i64 m) := fun hu => hm.imp fun m hm => Cell.up (Cs := []) ⟨hm, by simp⟩ hu
  refine Spec.enter (fn := Go.Proofs.Tryd.f44) (n := 48) [.pointer (some ⟨b, 0, none⟩)] Go.Proofs.Tryd.func44 (by kernel_rfl) rfl Go.Proofs.Tryd.ntmps44 Go.Proofs.Tryd.results44 rfl (Own.nil _) ?_
  refine JC.rs ?_
  refine Seq.p rfl Ev.assign ?_
  refine Seq.nil ?_
  refine JC.seq ?_
  refine JC.rs ?_
  refine Seq.p rfl Ev.move ?_
  refine Seq.p rfl Ev.nilP ?_
  refine Seq.p rfl (Ev.faB fd.text_Reader_0) ?_
  refine Seq.p rfl (Ev.ldS sc.sl_uint8 (Cells.cell hc)) ?_
  refine Seq.p rfl (Ev.cut sl.sl_uint8 (hr := hr.r) (l := 1) (h := h.length) (hlo := ⟨_, (by repeat (first | exact Look.here | apply Look.there (hne := rfl) | exact Look.const | apply Look.mix rfl | exact Look.arg0 | apply Look.args | exact Look.func))⟩) (hhi := rfl)) ?_
  rw [h2]
  refine Seq.buildSlN _ (hsl := sl.sl_uint8) (hz := z.uint8) (k := ?_); intro b9
  refine Seq.markLit (hd := sl.sl_uint8) (he := it.uint8) (k := ?_)
  obtain ⟨ix, hix⟩ : ∃ ix, Lib.index (Lib.bytesOf (h.drop 1)) (Lib.bytesOf eightL) = ix := ⟨_, rfl⟩
  refine Seq.callP rfl (fun w' hw => hix ▸ indexEight (hsub.up hw) (RAt.up (RAt.own (enc := byteEnc) (xs := eightL) (hs := by decide)) hw) (isBytes_drop hB) hdl (hmax hw)) ?_
  have hge := Lib.index_ge (Lib.bytesOf (h.drop 1)) (Lib.bytesOf eightL)
  rw [hix] at hge
  have hle : ix ≤ 65536 := by
    rcases Int.lt_or_le ix 0 with h0 | h0
    · omega
    · obtain ⟨i, rfl⟩ : ∃ i : Nat, ix = i := ⟨ix.toNat, (Int.toNat_of_nonneg h0).symm⟩
      have h5 := (index_some hix).1
      have h6 : (Lib.bytesOf (h.drop 1)).length = (h.drop 1).length := by simp [Lib.bytesOf]
      omega
  refine Seq.p rfl Ev.assign ?_
  refine Seq.nil ?_
  refine JC.rs ?_
  refine Seq.p rfl Ev.move ?_
  refine Seq.p rfl Ev.ge ?_
  refine Seq.nil ?_
  first | refine JC.c (ht := fun c13 => ?_) (hf := fun c13 => ?_) | refine JC.cb (ht := fun c13 => ?_) (hf := fun c13 => ?_)
  · -- then_t13
    obtain ⟨i, rfl⟩ : ∃ i : Nat, ix = i := ⟨ix.toNat, (Int.toNat_of_nonneg (by omega)).symm⟩
    refine JC.rs ?_
    refine Seq.p rfl Ev.move ?_
    refine Seq.p rfl Ev.add ?_
    refine Seq.p rfl Ev.assign ?_
    refine Seq.nil ?_
    refine JC.ret ?_
    -- return 0
    show retQ _ _ _ _ _ _ _ _
    refine ret1 (hp := Part.nil _) (hpost := ?_)
    rw [foot_some hB hne hix]
    congr 1
  · -- else_t13
    obtain rfl : ix = -1 := by omega
    have hfm := foot_miss hB hne hix
    refine JC.skip ?_
    refine JC.seq ?_
    refine JC.qs mixed (by kernel_rfl) ?_
    refine Qui.p rfl Ev.move ?_
    refine Qui.p rfl Ev.nilP ?_
    refine Qui.p rfl (Ev.faB fd.text_Reader_0) ?_
    refine Qui.p rfl (Ev.ldS sc.sl_uint8 (Cells.cell hc)) ?_
    refine Qui.p rfl Ev.move ?_
    refine Qui.p rfl Ev.nilP ?_
    refine Qui.p rfl (Ev.faB fd.text_Reader_0) ?_
    refine Qui.p rfl (Ev.ldS sc.sl_uint8 (Cells.cell hc)) ?_
    refine Qui.p rfl (Ev.lenSl sl.sl_uint8 (hr := hr.r)) ?_
    refine Qui.p rfl (Ev.dec (m := h.length)) ?_
    refine Qui.p rfl (Ev.iaN sl.sl_uint8 (hr := hr.r)) ?_
    refine Qui.p rfl (Ev.ldE1 sc.uint8 (hr := hr.r)) ?_
    refine Qui.p rfl Ev.eq ?_
    refine Qui.p rfl Ev.move ?_
    refine Qui.andG (D := [29, 30, 31, 32, 33, 34, 35, 36]) (d := 29) (t := 36) (k := 7) (hn := fun h29 => ?_) (hx := ?_)
    · repeat (first | refine Qui.gn rfl rfl rfl rfl ?_ | refine Qui.gu rfl rfl rfl ?_)
      refine Qui.p rfl Ev.pickF ?_
      exact Qui.nil ⟨(by repeat (first | with_reducible exact Off.refl | refine Off.upd ?_ rfl | exact Off.mix | refine Off.mix2 ?_ rfl)), Look.here⟩
    apply Exists.intro
    refine ⟨fun h29 => ?_, fun u36 => ?_⟩
    · try simp only [decide_eq_true_eq, decide_eq_false_iff_not, Bool.and_eq_true, Bool.or_eq_true, Bool.not_eq_true', Bool.not_eq_false', Bool.or_eq_false_iff, Bool.and_eq_false_imp] at h29
      refine Qui.gy rfl rfl rfl ?_
      refine Qui.p rfl Ev.move ?_
      refine Qui.gy rfl rfl rfl ?_
      refine Qui.p rfl Ev.nilP ?_
      refine Qui.gy rfl rfl rfl ?_
      refine Qui.p rfl (Ev.faB fd.text_Reader_0) ?_
      refine Qui.gy rfl rfl rfl ?_
      refine Qui.p rfl (Ev.ldS sc.sl_uint8 (Cells.cell hc)) ?_
      refine Qui.gy rfl rfl rfl ?_
      refine Qui.p rfl (Ev.lenSl sl.sl_uint8 (hr := hr.r)) ?_
      refine Qui.gy rfl rfl rfl ?_
      refine Qui.p rfl Ev.gt ?_
      refine Qui.p rfl Ev.pickT ?_
      exact Qui.nil ⟨(by repeat (first | with_reducible exact Off.refl | refine Off.upd ?_ rfl | exact Off.mix | refine Off.mix2 ?_ rfl)), Look.here⟩
    refine Qui.nil ?_
    first | refine JC.c (ht := fun c36 => ?_) (hf := fun c36 => ?_) | refine JC.cb (ht := fun c36 => ?_) (hf := fun c36 => ?_)
    · -- then_t36
      have hcc : h[h.length - 1]! = 56 ∧ 1 < h.length := by simp only [Bool.and_eq_true, decide_eq_true_eq] at c36; omega
      refine JC.rs ?_
      refine Seq.p rfl Ev.move ?_
      refine Seq.p rfl Ev.nilP ?_
      refine Seq.p rfl (Ev.faB fd.text_Reader_0) ?_
      refine Seq.p rfl (Ev.ldS sc.sl_uint8 (Cells.cell hc)) ?_
      refine Seq.p rfl (Ev.lenSl sl.sl_uint8 (hr := hr.r)) ?_
      refine Seq.p rfl (Ev.dec (m := h.length)) ?_
      refine Seq.p rfl Ev.assign ?_
      refine Seq.nil ?_
      refine JC.ret ?_
      -- return 1
      show retQ _ _ _ _ _ _ _ _
      refine ret1 (hp := Part.nil _) (hpost := ?_)
      rw [hfm, if_pos hcc]
    · -- else_t36
      have hcc : ¬ (h[h.length - 1]! = 56 ∧ 1 < h.length) := by simp only [Bool.and_eq_false_iff, decide_eq_false_iff_not] at c36; omega
      refine JC.skip ?_
      refine JC.rs ?_
      refine Seq.p rfl Ev.move ?_
      refine Seq.p rfl Ev.nilP ?_
      refine Seq.p rfl (Ev.faB fd.text_Reader_0) ?_
      refine Seq.p rfl (Ev.ldS sc.sl_uint8 (Cells.cell hc)) ?_
      refine Seq.p rfl (Ev.lenSl sl.sl_uint8 (hr := hr.r)) ?_
      refine Seq.p rfl Ev.assign ?_
      refine Seq.nil ?_
      refine JC.ret ?_
      -- return 2
      show retQ _ _ _ _ _ _ _ _
      refine ret1 (hp := Part.nil _) (hpost := ?_)
      rw [hfm, if_neg hcc]
end Go.Rx
/- A reader's Next, by the program; Feed and Next by the document. -/
namespace Go.Rx
open Go Go.RowKit Go.Lib Go.Proofs.YtcggppjpnepoiaaDoor
set_option linter.unusedVariables false
set_option linter.unusedSimpArgs false
theorem readF_nil : (readF []).why = 20 := by
  have h : headF [] = .bad 0 20 := by
    unfold headF
    simp [preF]
  rw [readF_bad h]
  rfl
theorem readF_size_le (l : List Int) : (readF l).size ≤ l.length := by
  unfold readF
  split
  · exact Nat.zero_le _
  · split
    · exact Nat.zero_le _
    · split
      · exact Nat.zero_le _
      · split
        · exact Nat.zero_le _
        · split
          · exact Nat.zero_le _
          · rename_i f k _ _ h2 _ _
            cases partsF l f (f + k) f ⟨#[]⟩ [] with
            | bad p e => show f + k + 7 ≤ l.length; omega
            | ok kind xs => show f + k + 7 ≤ l.length; omega
theorem readF_ok_size {l : List Int} (h : (readF l).why = 0) : (readF l).size ≠ 0 := by
  rcases readF_cases l with ⟨a, c, h1, h2⟩ | ⟨f, k, _, h1⟩
  · rw [h1] at h; exact absurd h h2
  · rw [h1]
    cases partsF l f (f + k) f ⟨#[]⟩ [] with
    | bad p e => show f + k + 7 ≠ 0; omega
    | ok kind xs => show f + k + 7 ≠ 0; omega
theorem nextF_short {h : List Int} (h1 : (readF h).why = 20) : nextF h = ⟨h, ⟨#[]⟩, [], false, 0⟩ := if_pos h1
theorem nextF_line {h : List Int} (h1 : ¬ (readF h).why = 20) (h2 : (readF h).size ≠ 0) : nextF h = ⟨h.drop (readF h).size, (readF h).kind, (readF h).tags, decide ((readF h).why = 0), (readF h).why⟩ := by
  unfold nextF
  rw [if_neg h1, if_pos h2]
theorem nextF_foot {h : List Int} (h1 : ¬ (readF h).why = 20) (h2 : ¬ (readF h).size ≠ 0) : nextF h = ⟨h.drop (footF h 1), ⟨#[]⟩, [], false, (readF h).why⟩ := by
  unfold nextF
  rw [if_neg h1, if_neg h2]
theorem nextF_len (h : List Int) : (nextF h).held.length ≤ h.length := by
  unfold nextF
  split
  · exact Nat.le_refl _
  · split
    · simp
    · simp
theorem nextF_bytes {h : List Int} (hB : isBytes h) : isBytes (nextF h).held := by
  unfold nextF
  split
  · exact hB
  · split
    · exact isBytes_drop hB
    · exact isBytes_drop hB
theorem nextF_tags (h : List Int) (hh : h.length ≤ 65536) : (nextF h).tags.length ≤ 64 := by
  have h1 := (readF_tags (l := h) (N := 65536) hh).2
  unfold nextF
  split
  · exact Nat.zero_le _
  · split
    · exact h1
    · exact Nat.zero_le _
theorem feedF_len {h b : List Int} (hh : h.length ≤ 65536) : (feedF h b).1.length ≤ 65536 := by
  unfold feedF
  split
  · exact hh
  · simp; omega
theorem feedF_bytes {h b : List Int} (hB : isBytes h) (hb : isBytes b) : isBytes (feedF h b).1 := by
  unfold feedF
  split
  · exact hB
  · intro x hx
    rcases List.mem_append.1 hx with h | h
    · exact hB x h
    · exact hb x h
set_option maxHeartbeats 2000000 in
set_option maxRecDepth 100000 in
theorem readerNext {ws w : World} {b c : Nat} {A : Option Addr} {h : List Int} (hs : Upd ws w [] [readerC b (.slice A h.length c), bytesC (.slice A h.length c) h]) (hL : Laid2 ws) (hB : isBytes h) (hh : h.length ≤ 65536) :
    Spec Go.Proofs.Tryd.prog 29 #[.pointer (some ⟨b, 0, none⟩)] w [readerC b (.slice A h.length c), bytesC (.slice A h.length c) h] (fun u H' => ∃ A' c' A2 c2, u = .tuple #[.string (nextF h).kind, .slice A' (nextF h).tags.length c', .bool (nextF h).ok, .int .i64 (nextF h).why] ∧
      H' = [tagsC (.slice A' (nextF h).tags.length c') (nextF h).tags, readerC b (.slice A2 (nextF h).held.length c2), bytesC (.slice A2 (nextF h).held.length c2) (nextF h).held]) := by
  have ho := hs.own
  have hL2 : ∀ {w' : World} {H : List Chunk}, Upd w w' [readerC b (.slice A h.length c), bytesC (.slice A h.length c) h] H → Laid2 w' := fun hu => hL.up (Upd.step (F := []) hs hu)
  have hsz := readF_size_le h
  have hfl := footF_le h 1
  have htl := (readF_tags (l := h) (N := 65536) hh).2
  refine Spec.enter (fn := Go.Proofs.Tryd.f29) (n := 38) [.pointer (some ⟨b, 0, none⟩)] Go.Proofs.Tryd.func29 (by kernel_rfl) rfl Go.Proofs.Tryd.ntmps29 Go.Proofs.Tryd.results29 rfl ho ?_
  refine JC.re (fun w h => h.nilOwn 30 2) ?_
  refine JC.rs ?_
  refine Seq.p rfl Ev.assign ?_
  refine Seq.p rfl Ev.assign ?_
  refine Seq.p rfl Ev.assign ?_
  refine Seq.p rfl Ev.assign ?_
  refine Seq.nil ?_
  refine JC.rs ?_
  refine Seq.p rfl Ev.move ?_
  refine Seq.p rfl Ev.nilP ?_
  refine Seq.p rfl (Ev.faB fd.text_Reader_0) ?_
  refine Seq.p rfl (Ev.ldB sc.sl_uint8) ?_
  refine Seq.call rfl (fun w' hw => textRead (RAt.up (RAt.own (enc := byteEnc) (xs := h)) hw) hB (by omega) (hL2 hw).laid) (F := _) (by exact List.Perm.refl _) ?_
  rintro _ _ ⟨A1, c1, rfl, rfl⟩
  simp only [lineA, List.cons_append, List.nil_append]
  refine Seq.p rfl Ev.move ?_
  refine Seq.p rfl Ev.extract ?_
  refine Seq.p rfl Ev.extract ?_
  refine Seq.alloc (cs := [_, _, _, _]) (hz := z.text_line) (k := ?_); intro b6
  refine Seq.storeN [_, _, _, _] sz.text_line (k := ?_)
  refine Seq.p rfl Ev.assign ?_
  refine Seq.nil ?_
  refine JC.seq ?_
  refine JC.blk ?_
  refine JC.rs ?_
  refine Seq.p rfl Ev.move ?_
  refine Seq.p rfl Ev.eq ?_
  refine Seq.p rfl Ev.assign ?_
  refine Seq.nil ?_
  first | refine JC.c (ht := fun c20 => ?_) (hf := fun c20 => ?_) | refine JC.cb (ht := fun c20 => ?_) (hf := fun c20 => ?_)
  · -- then_t20
    refine JC.rs ?_
    refine Seq.p rfl Ev.assign ?_
    refine Seq.p rfl Ev.assign ?_
    refine Seq.p rfl Ev.assign ?_
    refine Seq.p rfl Ev.assign ?_
    refine Seq.nil ?_
    refine JC.ret ?_
    -- return 0
    show retQ _ _ _ _ _ _ _ _
    refine retI (RVs.t (hs := (RVs.t (hs := (RVs.t (hs := (RVs.t (hs := RVs.nil)))))))) (H' := [nilC, readerC b (.slice A h.length c), bytesC (.slice A h.length c) h]) (by repeat (first | exact Part.nil _ | refine Part.at (by repeat (first | exact At.z | apply At.s)) ?_)) ?_
    rw [nextF_short c20]
    exact ⟨none, 0, A, c, rfl, rfl⟩
  · -- else_t20
    refine JC.rs ?_
    refine Seq.p rfl (Ev.faB fd.text_line_2) ?_
    refine Seq.p rfl (Ev.ldB sc.int) ?_
    refine Seq.p rfl Ev.gt ?_
    refine Seq.p rfl Ev.assign ?_
    refine Seq.nil ?_
    first | refine JC.c (ht := fun c23 => ?_) (hf := fun c23 => ?_) | refine JC.cb (ht := fun c23 => ?_) (hf := fun c23 => ?_)
    · -- then_t23
      have hz : (readF h).size ≠ 0 := by omega
      refine JC.reg ?_
      refine Seq.p rfl Ev.move ?_
      refine Seq.p rfl (Ev.faB fd.text_line_2) ?_
      refine Seq.p rfl (Ev.ldB sc.int) ?_
      refine Seq.call rfl (fun w' hw => readerDrop (n := (readF h).size) (hw.part (by repeat (first | exact Part.nil _ | refine Part.at (by repeat (first | exact At.z | apply At.s)) ?_))).own hh hsz) (Gs := [readerC b (.slice A h.length c), bytesC (.slice A h.length c) h]) (F := [_, _, _]) (by exact List.perm_append_comm (l₁ := [_, _]) (l₂ := [_, _, _])) ?_
      rintro _ _ ⟨A3, c3, rfl⟩
      simp only [List.cons_append, List.nil_append]
      refine Seq.nil ?_
      refine JC.seq ?_
      refine JC.rs ?_
      refine Seq.p rfl Ev.move ?_
      refine Seq.p rfl Ev.ne ?_
      refine Seq.nil ?_
      first | refine JC.c (ht := fun c32 => ?_) (hf := fun c32 => ?_) | refine JC.cb (ht := fun c32 => ?_) (hf := fun c32 => ?_)
      · -- then_t32
        refine JC.rs ?_
        refine Seq.p rfl Ev.move ?_
        refine Seq.p rfl Ev.assign ?_
        refine Seq.p rfl Ev.assign ?_
        refine Seq.p rfl Ev.assign ?_
        refine Seq.p rfl Ev.assign ?_
        refine Seq.nil ?_
        refine JC.ret ?_
        -- return 1
        show retQ _ _ _ _ _ _ _ _
        refine retI (RVs.t (hs := (RVs.t (hs := (RVs.t (hs := (RVs.t (hs := RVs.nil)))))))) (H' := [nilC, readerC b (.slice A3 (h.drop (readF h).size).length c3), bytesC (.slice A3 (h.drop (readF h).size).length c3) (h.drop (readF h).size)]) (by repeat (first | exact Part.nil _ | refine Part.at (by repeat (first | exact At.z | apply At.s)) ?_)) ?_
        have h1 := readF_bad_form c32
        rw [nextF_line c20 hz, h1.1, h1.2, decide_eq_false c32]
        exact ⟨none, 0, A3, c3, rfl, rfl⟩
      · -- else_t32
        refine JC.skip ?_
        refine JC.qs mixed (by kernel_rfl) ?_
        refine Qui.p rfl (Ev.faB fd.text_line_0) ?_
        refine Qui.p rfl (Ev.ldB sc.string) ?_
        refine Qui.p rfl (Ev.faB fd.text_line_1) ?_
        refine Qui.p rfl (Ev.ldB sc.sl_api_Tag) ?_
        refine Qui.p rfl Ev.assign ?_
        refine Qui.p rfl Ev.assign ?_
        refine Qui.p rfl Ev.assign ?_
        refine Qui.p rfl Ev.assign ?_
        refine Qui.nil ?_
        refine JC.ret ?_
        -- return 2
        show retQ _ _ _ _ _ _ _ _
        refine retI (RVs.t (hs := (RVs.t (hs := (RVs.t (hs := (RVs.t (hs := RVs.nil)))))))) (H' := [tagsC (.slice A1 (readF h).tags.length c1) (readF h).tags, readerC b (.slice A3 (h.drop (readF h).size).length c3), bytesC (.slice A3 (h.drop (readF h).size).length c3) (h.drop (readF h).size)]) (by repeat (first | exact Part.nil _ | refine Part.at (by repeat (first | exact At.z | apply At.s)) ?_)) ?_
        have h1 := Classical.not_not.1 c32
        rw [nextF_line c20 hz, decide_eq_true h1, h1]
        exact ⟨A1, c1, A3, c3, rfl, rfl⟩
    · -- else_t23
      have hz : ¬ (readF h).size ≠ 0 := by omega
      have hne : h ≠ [] := by rintro rfl; exact c20 readF_nil
      refine JC.reg ?_
      refine Seq.p rfl Ev.move ?_
      refine Seq.p rfl Ev.move ?_
      refine Seq.callP rfl (fun w hw => readerFoot (box_cell hw (by repeat (first | exact At.z | apply At.s)) rfl) (RAt.up (RAt.own (enc := byteEnc) (xs := h)) hw) hB hne hh (hL2 hw).max) ?_
      refine Seq.call rfl (fun w' hw => readerDrop (n := footF h 1) (hw.part (by repeat (first | exact Part.nil _ | refine Part.at (by repeat (first | exact At.z | apply At.s)) ?_))).own hh hfl) (Gs := [readerC b (.slice A h.length c), bytesC (.slice A h.length c) h]) (F := [_, _, _]) (by exact List.perm_append_comm (l₁ := [_, _]) (l₂ := [_, _, _])) ?_
      rintro _ _ ⟨A3, c3, rfl⟩
      simp only [List.cons_append, List.nil_append]
      refine Seq.nil ?_
      refine JC.seq ?_
      refine JC.rs ?_
      refine Seq.p rfl Ev.move ?_
      refine Seq.p rfl Ev.ne ?_
      refine Seq.nil ?_
      first | refine JC.c (ht := fun c32 => ?_) (hf := fun c32 => ?_) | refine JC.cb (ht := fun c32 => ?_) (hf := fun c32 => ?_)
      · -- then_t32
        refine JC.rs ?_
        refine Seq.p rfl Ev.move ?_
        refine Seq.p rfl Ev.assign ?_
        refine Seq.p rfl Ev.assign ?_
        refine Seq.p rfl Ev.assign ?_
        refine Seq.p rfl Ev.assign ?_
        refine Seq.nil ?_
        refine JC.ret ?_
        -- return 3
        show retQ _ _ _ _ _ _ _ _
        refine retI (RVs.t (hs := (RVs.t (hs := (RVs.t (hs := (RVs.t (hs := RVs.nil)))))))) (H' := [nilC, readerC b (.slice A3 (h.drop (footF h 1)).length c3), bytesC (.slice A3 (h.drop (footF h 1)).length c3) (h.drop (footF h 1))]) (by repeat (first | exact Part.nil _ | refine Part.at (by repeat (first | exact At.z | apply At.s)) ?_)) ?_
        rw [nextF_foot c20 hz]
        exact ⟨none, 0, A3, c3, rfl, rfl⟩
      · -- else_t32
        refine JC.skip ?_
        refine JC.qs mixed (by kernel_rfl) ?_
        refine Qui.p rfl (Ev.faB fd.text_line_0) ?_
        refine Qui.p rfl (Ev.ldB sc.string) ?_
        refine Qui.p rfl (Ev.faB fd.text_line_1) ?_
        refine Qui.p rfl (Ev.ldB sc.sl_api_Tag) ?_
        refine Qui.p rfl Ev.assign ?_
        refine Qui.p rfl Ev.assign ?_
        refine Qui.p rfl Ev.assign ?_
        refine Qui.p rfl Ev.assign ?_
        refine Qui.nil ?_
        refine JC.ret ?_
        -- return 4
        show retQ _ _ _ _ _ _ _ _
        exfalso
        exact hz (readF_ok_size (Classical.not_not.1 c32))
        skip
set_option maxHeartbeats 1000000 in
set_option maxRecDepth 100000 in
theorem refFeed {w : World} {c : Nat} {A : Option Addr} {vb : Value} {h l : List Int} (hr : RSl byteEnc 1 w [bytesC (.slice A h.length c) h] vb l) (ho : Own w [bytesC (.slice A h.length c) h]) (hh : h.length ≤ 65536) (hl : l.length ≤ 140737488351232) :
    Spec Go.Proofs.Tryd.prog 28 #[.slice A h.length c, vb] w [bytesC (.slice A h.length c) h] (fun u H' => ∃ A' c', u = .tuple #[.slice A' (feedF h l).1.length c', .int .i64 (feedF h l).2] ∧ H' = [bytesC (.slice A' (feedF h l).1.length c') (feedF h l).1]) := by
  refine Spec.enter (fn := Go.Proofs.Tryd.f28) (n := 18) [.slice A h.length c, vb] Go.Proofs.Tryd.func28 (by kernel_rfl) rfl Go.Proofs.Tryd.ntmps28 Go.Proofs.Tryd.results28 rfl ho ?_
  refine JC.rs ?_
  refine Seq.p rfl Ev.assign ?_
  refine Seq.p rfl Ev.assign ?_
  refine Seq.nil ?_
  refine JC.seq ?_
  refine JC.rs ?_
  refine Seq.p rfl Ev.move ?_
  refine Seq.p rfl (Ev.lenSl sl.sl_uint8 (hr := RAt.own (enc := byteEnc) (xs := h))) ?_
  refine Seq.p rfl Ev.move ?_
  refine Seq.p rfl (Ev.lenSl sl.sl_uint8 (hr := hr.r)) ?_
  refine Seq.p rfl (Ev.addN (m := h.length) (c := l.length)) ?_
  refine Seq.p rfl Ev.gt ?_
  refine Seq.nil ?_
  first | refine JC.c (ht := fun c11 => ?_) (hf := fun c11 => ?_) | refine JC.cb (ht := fun c11 => ?_) (hf := fun c11 => ?_)
  · -- then_t11
    refine JC.rs ?_
    refine Seq.p rfl Ev.move ?_
    refine Seq.p rfl Ev.assign ?_
    refine Seq.p rfl Ev.assign ?_
    refine Seq.nil ?_
    refine JC.ret ?_
    -- return 0
    show retQ _ _ _ _ _ _ _ _
    refine ret2 (H' := [bytesC (.slice A h.length c) h]) (hp := Part.refl _) (hpost := ?_)
    have e : feedF h l = (h, 2) := if_pos (by omega)
    rw [e]
    exact ⟨A, c, rfl, rfl⟩
  · -- else_t11
    refine JC.skip ?_
    refine JC.rs ?_
    refine Seq.buildSl (cs := []) (hsl := sl.sl_uint8) (hz := z.uint8) (hcs := rfl) (k := ?_); intro b13
    refine Seq.re (fun w h => Upd.boxOwn h (n := 0) (size := 1) At.z rfl (by omega)) ?_
    refine Seq.p rfl Ev.move ?_
    refine Seq.append (hsl := sl.sl_uint8) (he := el.uint8) (hH := At.z) (hsrc := fun w' hw => Src.rsl sl.sl_uint8 (RAt.up (RAt.own (enc := byteEnc) (xs := h)) hw) (by omega) byteOne) (k := ?_); intro A15 c15
    rw [Nat.zero_add h.length, List.nil_append]
    refine Seq.p rfl Ev.move ?_
    refine Seq.append (hsl := sl.sl_uint8) (he := el.uint8) (hH := At.z) (hsrc := fun w' hw => Src.rsl sl.sl_uint8 (hr.up hw) (by omega) byteOne) (k := ?_); intro A17 c17
    refine Seq.p rfl Ev.assign ?_
    refine Seq.p rfl Ev.assign ?_
    refine Seq.nil ?_
    rw [← bytesC_append (.slice A17 (h.length + l.length) c17) h l _ rfl]
    refine JC.ret ?_
    -- return 1
    show retQ _ _ _ _ _ _ _ _
    refine ret2 (H' := [bytesC (.slice A17 (h.length + l.length) c17) (h ++ l)]) (hp := Part.here (Part.nil _)) (hpost := ?_)
    have e : feedF h l = (h ++ l, 0) := if_neg (by omega)
    rw [e]
    exact ⟨A17, c17, by simp only [List.length_append], by simp only [List.length_append]⟩
set_option maxHeartbeats 2000000 in
set_option maxRecDepth 100000 in
theorem refNext {w : World} {c : Nat} {A : Option Addr} {h : List Int} (ho : Own w [bytesC (.slice A h.length c) h]) (hB : isBytes h) (hh : h.length ≤ 65536) :
    Spec Go.Proofs.Tryd.prog 30 #[.slice A h.length c] w [bytesC (.slice A h.length c) h] (fun u H' => ∃ A' c' A2 c2, u = .tuple #[.slice A2 (nextF h).held.length c2, .string (nextF h).kind, .slice A' (nextF h).tags.length c', .bool (nextF h).ok, .int .i64 (nextF h).why] ∧
      H' = [tagsC (.slice A' (nextF h).tags.length c') (nextF h).tags, bytesC (.slice A2 (nextF h).held.length c2) (nextF h).held]) := by
  have hsz := readF_size_le h
  have hfl := footF_le h 1
  have htl := (readF_tags (l := h) (N := 65536) hh).2
  refine Spec.enter (fn := Go.Proofs.Tryd.f30) (n := 63) [.slice A h.length c] Go.Proofs.Tryd.func30 (by kernel_rfl) rfl Go.Proofs.Tryd.ntmps30 Go.Proofs.Tryd.results30 rfl ho ?_
  refine JC.re (fun w h => h.nilOwn 30 2) ?_
  refine JC.rs ?_
  refine Seq.p rfl Ev.assign ?_
  refine Seq.p rfl Ev.assign ?_
  refine Seq.p rfl Ev.assign ?_
  refine Seq.p rfl Ev.assign ?_
  refine Seq.p rfl Ev.assign ?_
  refine Seq.nil ?_
  refine JC.rs ?_
  refine Seq.p rfl Ev.move ?_
  refine Seq.call rfl (fun w' hw => refRead (RAt.up (RAt.own (enc := byteEnc) (xs := h)) hw) hB (by omega)) (F := _) (by exact List.Perm.refl _) ?_
  rintro _ _ ⟨A1, c1, rfl, rfl⟩
  simp only [ansV, List.cons_append, List.nil_append]
  refine Seq.alloc (cs := [_, _, _, _, _, _]) (hz := z.bourseref03_Answer) (k := ?_); intro b7
  refine Seq.storeN [_, _, _, _, _, _] sz.bourseref03_Answer (k := ?_)
  refine Seq.nil ?_
  refine JC.seq ?_
  refine JC.rs ?_
  refine Seq.p rfl (Ev.faB fd.bourseref03_Answer_3) ?_
  refine Seq.p rfl (Ev.ldB sc.api_Errno) ?_
  refine Seq.p rfl Ev.eq ?_
  refine Seq.nil ?_
  first | refine JC.c (ht := fun c13 => ?_) (hf := fun c13 => ?_) | refine JC.cb (ht := fun c13 => ?_) (hf := fun c13 => ?_)
  · -- then_t13
    refine JC.rs ?_
    refine Seq.p rfl Ev.move ?_
    refine Seq.p rfl Ev.assign ?_
    refine Seq.p rfl Ev.assign ?_
    refine Seq.p rfl Ev.assign ?_
    refine Seq.p rfl Ev.assign ?_
    refine Seq.p rfl Ev.assign ?_
    refine Seq.nil ?_
    refine JC.ret ?_
    -- return 0
    show retQ _ _ _ _ _ _ _ _
    refine retI (RVs.t (hs := (RVs.t (hs := (RVs.t (hs := (RVs.t (hs := (RVs.t (hs := RVs.nil)))))))))) (H' := [nilC, bytesC (.slice A h.length c) h]) (by repeat (first | exact Part.nil _ | refine Part.at (by repeat (first | exact At.z | apply At.s)) ?_)) ?_
    rw [nextF_short c13]
    exact ⟨none, 0, A, c, rfl, rfl⟩
  · -- else_t13
    refine JC.skip ?_
    refine JC.seq ?_
    refine JC.rs ?_
    refine Seq.p rfl (Ev.faB fd.bourseref03_Answer_4) ?_
    refine Seq.p rfl (Ev.ldB sc.bool) ?_
    refine Seq.nil ?_
    first | refine JC.c (ht := fun c16 => ?_) (hf := fun c16 => ?_) | refine JC.cb (ht := fun c16 => ?_) (hf := fun c16 => ?_)
    · -- then_t16
      obtain ⟨A3, c3, h3⟩ := subForm (A := A) (c := c) hsz
      refine JC.qs mixed (by kernel_rfl) ?_
      refine Qui.p rfl Ev.move ?_
      refine Qui.p rfl (Ev.faB fd.bourseref03_Answer_5) ?_
      refine Qui.p rfl (Ev.ldB sc.int) ?_
      refine Qui.p rfl (Ev.cut sl.sl_uint8 (hr := RAt.own (enc := byteEnc) (xs := h)) (l := (readF h).size) (h := h.length) (hlo := ⟨_, (by repeat (first | exact Look.here | apply Look.there (hne := rfl) | exact Look.const | apply Look.mix rfl | exact Look.arg0 | apply Look.args | exact Look.func))⟩) (hhi := rfl)) ?_
      rw [h3]
      refine Qui.p rfl (Ev.faB fd.bourseref03_Answer_0) ?_
      refine Qui.p rfl (Ev.ldB sc.string) ?_
      refine Qui.p rfl (Ev.faB fd.bourseref03_Answer_1) ?_
      refine Qui.p rfl (Ev.ldB sc.sl_api_Tag) ?_
      refine Qui.p rfl (Ev.faB fd.bourseref03_Answer_3) ?_
      refine Qui.p rfl (Ev.ldB sc.api_Errno) ?_
      refine Qui.p rfl Ev.eq ?_
      refine Qui.p rfl (Ev.faB fd.bourseref03_Answer_3) ?_
      refine Qui.p rfl (Ev.ldB sc.api_Errno) ?_
      refine Qui.p rfl Ev.assign ?_
      refine Qui.p rfl Ev.assign ?_
      refine Qui.p rfl Ev.assign ?_
      refine Qui.p rfl Ev.assign ?_
      refine Qui.p rfl Ev.assign ?_
      refine Qui.nil ?_
      refine JC.re (fun w hw => cutTo hw (At.s (At.s (At.s At.z))) hsz) ?_
      rw [h3]
      refine JC.ret ?_
      -- return 1
      show retQ _ _ _ _ _ _ _ _
      refine retI (RVs.t (hs := (RVs.t (hs := (RVs.t (hs := (RVs.t (hs := (RVs.t (hs := RVs.nil)))))))))) (H' := [tagsC (.slice A1 (readF h).tags.length c1) (readF h).tags, bytesC (.slice A3 (h.drop (readF h).size).length c3) (h.drop (readF h).size)]) (by repeat (first | exact Part.nil _ | refine Part.at (by repeat (first | exact At.z | apply At.s)) ?_)) ?_
      rw [nextF_line c13 c16]
      exact ⟨A1, c1, A3, c3, rfl, rfl⟩
    · -- else_t16
      have hne : h ≠ [] := by rintro rfl; exact c13 readF_nil
      have hlen : 0 < h.length := List.length_pos_iff.2 hne
      have hnf := nextF_foot c13 c16
      refine JC.skip ?_
      refine JC.seq ?_
      refine JC.rs ?_
      refine Seq.p rfl Ev.assign ?_
      refine Seq.nil ?_
      refine JC.blk ?_
      refine JC.loop (α := Nat) (I := fun i e1 H1 => Has [2, 3, 4, 5, 6, 8, 30, 31, 32, 33, 34, 35, 36, 37, 38, 39, 40, 41, 42, 43, 44, 45, 46, 47, 48, 49, 50, 51, 52, 53, 54, 55, 56, 57, 58, 59, 60] [(8, .int .i64 (i : Int))] _ e1 ∧ H1 = _ ∧ 1 ≤ i ∧ i ≤ h.length ∧ footF h i = footF h 1) (μ := fun i => h.length - i) 1 ⟨Has.mk Off.refl (allLook_cons (by repeat (first | exact Look.here | apply Look.there (hne := rfl) | exact Look.const | apply Look.mix rfl | exact Look.arg0 | apply Look.args | exact Look.func)) allLook_nil), rfl, by omega, by omega, rfl⟩ ?_
      rintro i _ _ ⟨⟨u, rfl⟩, rfl, hi1, hi, hf⟩; dsimp only [setL]
      refine JC.seq ?_
      refine JC.rs ?_
      refine Seq.p rfl Ev.move ?_
      refine Seq.p rfl Ev.move ?_
      refine Seq.p rfl (Ev.lenSl sl.sl_uint8 (hr := RAt.own (enc := byteEnc) (xs := h))) ?_
      refine Seq.p rfl Ev.lt ?_
      refine Seq.nil ?_
      first | refine JC.c (ht := fun c33 => ?_) (hf := fun c33 => ?_) | refine JC.cb (ht := fun c33 => ?_) (hf := fun c33 => ?_)
      · -- then_t33
        have hi2 : i < h.length := by omega
        refine JC.skip ?_
        refine JC.seq ?_
        refine JC.blk ?_
        refine JC.rs ?_
        refine Seq.p rfl Ev.move ?_
        refine Seq.p rfl Ev.move ?_
        refine Seq.p rfl (Ev.iaN sl.sl_uint8 (hr := RAt.own (enc := byteEnc) (xs := h))) ?_
        refine Seq.p rfl (Ev.ldE1 sc.uint8 (hr := RAt.own (enc := byteEnc) (xs := h))) ?_
        refine Seq.p rfl Ev.eq ?_
        refine Seq.p rfl Ev.move ?_
        refine Seq.andG (D := [41, 42, 43, 44, 45, 46, 47, 48, 49, 50, 51, 52, 53, 54, 55]) (d := 41) (t := 55) (k := 14) (hn := fun h41 => ?_) (hx := ?_)
        · repeat (first | refine Seq.gn rfl rfl rfl rfl ?_ | refine Seq.gu rfl rfl rfl ?_)
          refine Seq.p rfl Ev.pickF ?_
          exact Seq.nil ⟨rfl, (by repeat (first | with_reducible exact Off.refl | refine Off.upd ?_ rfl | exact Off.mix | refine Off.mix2 ?_ rfl)), Look.here⟩
        apply Exists.intro
        refine ⟨fun h41 => ?_, fun u55 => ?_⟩
        · try simp only [decide_eq_true_eq, decide_eq_false_iff_not, Bool.and_eq_true, Bool.or_eq_true, Bool.not_eq_true', Bool.not_eq_false', Bool.or_eq_false_iff, Bool.and_eq_false_imp] at h41
          refine Seq.gy rfl rfl rfl ?_
          refine Seq.p rfl Ev.move ?_
          refine Seq.gy rfl rfl rfl ?_
          refine Seq.p rfl (Ev.addN (m := i) (c := 1)) ?_
          refine Seq.gy rfl rfl rfl ?_
          refine Seq.p rfl Ev.move ?_
          refine Seq.gy rfl rfl rfl ?_
          refine Seq.p rfl (Ev.lenSl sl.sl_uint8 (hr := RAt.own (enc := byteEnc) (xs := h))) ?_
          refine Seq.gy rfl rfl rfl ?_
          refine Seq.p rfl Ev.eq ?_
          refine Seq.gy rfl rfl rfl ?_
          refine Seq.p rfl Ev.move ?_
          refine Seq.orG (D := [47, 48, 49, 50, 51, 52, 53, 54]) (d := 47) (t := 54) (k := 7) (hn := fun h47 => ?_) (hx := ?_)
          · repeat (first | refine Seq.gn rfl rfl rfl rfl ?_ | refine Seq.gu rfl rfl rfl ?_)
            refine Seq.gy rfl rfl rfl ?_
            refine Seq.p rfl Ev.pickT ?_
            exact Seq.nil ⟨rfl, (by repeat (first | with_reducible exact Off.refl | refine Off.upd ?_ rfl | exact Off.mix | refine Off.mix2 ?_ rfl)), Look.here⟩
          apply Exists.intro
          refine ⟨fun h47 => ?_, fun u54 => ?_⟩
          · try simp only [decide_eq_true_eq, decide_eq_false_iff_not, Bool.and_eq_true, Bool.or_eq_true, Bool.not_eq_true', Bool.not_eq_false', Bool.or_eq_false_iff, Bool.and_eq_false_imp] at h47
            refine Seq.gy rfl rfl rfl ?_
            refine Seq.p rfl Ev.move ?_
            refine Seq.gy rfl rfl rfl ?_
            refine Seq.p rfl Ev.move ?_
            refine Seq.gy rfl rfl rfl ?_
            refine Seq.p rfl (Ev.addN (m := i) (c := 1)) ?_
            refine Seq.gy rfl rfl rfl ?_
            refine Seq.p rfl (Ev.iaN sl.sl_uint8 (hr := RAt.own (enc := byteEnc) (xs := h))) ?_
            refine Seq.gy rfl rfl rfl ?_
            refine Seq.p rfl (Ev.ldE1 sc.uint8 (hr := RAt.own (enc := byteEnc) (xs := h))) ?_
            refine Seq.gy rfl rfl rfl ?_
            refine Seq.p rfl Ev.eq ?_
            refine Seq.gy rfl rfl rfl ?_
            refine Seq.p rfl Ev.pickF ?_
            exact Seq.nil ⟨rfl, (by repeat (first | with_reducible exact Off.refl | refine Off.upd ?_ rfl | exact Off.mix | refine Off.mix2 ?_ rfl)), Look.here⟩
          refine Seq.p rfl Ev.pickT ?_
          exact Seq.nil ⟨rfl, (by repeat (first | with_reducible exact Off.refl | refine Off.upd ?_ rfl | exact Off.mix | refine Off.mix2 ?_ rfl)), Look.here⟩
        refine Seq.nil ?_
        first | refine JC.c (ht := fun c55 => ?_) (hf := fun c55 => ?_) | refine JC.cb (ht := fun c55 => ?_) (hf := fun c55 => ?_)
        · -- then_t55
          have hfo : footAt h i = true := by
            unfold footAt
            simp only [Bool.and_eq_true, Bool.or_eq_true, decide_eq_true_eq] at c55 ⊢
            refine ⟨c55.1, ?_⟩
            rcases c55.2 with h5 | h5
            · exact .inl (by omega)
            · exact .inr h5
          rw [footF_hit hi2 hfo] at hf
          obtain ⟨A4, c4, h4⟩ := subForm (A := A) (c := c) hi
          refine JC.qs mixed (by kernel_rfl) ?_
          refine Qui.p rfl Ev.move ?_
          refine Qui.p rfl Ev.move ?_
          refine Qui.p rfl (Ev.cut sl.sl_uint8 (hr := RAt.own (enc := byteEnc) (xs := h)) (l := i) (h := h.length) (hlo := ⟨_, (by repeat (first | exact Look.here | apply Look.there (hne := rfl) | exact Look.const | apply Look.mix rfl | exact Look.arg0 | apply Look.args | exact Look.func))⟩) (hhi := rfl)) ?_
          rw [h4]
          refine Qui.p rfl (Ev.faB fd.bourseref03_Answer_3) ?_
          refine Qui.p rfl (Ev.ldB sc.api_Errno) ?_
          refine Qui.p rfl Ev.assign ?_
          refine Qui.p rfl Ev.assign ?_
          refine Qui.p rfl Ev.assign ?_
          refine Qui.p rfl Ev.assign ?_
          refine Qui.p rfl Ev.assign ?_
          refine Qui.nil ?_
          refine JC.re (fun w hw => cutTo hw (At.s (At.s (At.s At.z))) hi) ?_
          rw [h4]
          refine JC.ret ?_
          -- return 2
          show retQ _ _ _ _ _ _ _ _
          refine retI (RVs.t (hs := (RVs.t (hs := (RVs.t (hs := (RVs.t (hs := (RVs.t (hs := RVs.nil)))))))))) (H' := [nilC, bytesC (.slice A4 (h.drop i).length c4) (h.drop i)]) (by repeat (first | exact Part.nil _ | refine Part.at (by repeat (first | exact At.z | apply At.s)) ?_)) ?_
          rw [hnf, ← hf]
          exact ⟨none, 0, A4, c4, rfl, rfl⟩
        · -- else_t55
          have hfo : footAt h i = false := by
            unfold footAt
            simp only [Bool.and_eq_false_iff, Bool.or_eq_false_iff, decide_eq_false_iff_not] at c55 ⊢
            rcases c55 with h5 | h5
            · exact .inl h5
            · exact .inr ⟨by omega, h5.2⟩
          rw [footF_step hi2 hfo] at hf
          refine JC.skip ?_
          refine JC.reg ?_
          refine Seq.p rfl Ev.move ?_
          refine Seq.p rfl (by first | exact Ev.inc | exact Ev.add) ?_
          refine Seq.p rfl Ev.assign ?_
          refine Seq.nil ?_
          exact ⟨i + 1, _, Part.refl _, ⟨Has.mk (by repeat (first | refine Off.upd ?_ rfl | exact Off.mix | refine Off.mix2 ?_ rfl | exact Off.refl)) (allLook_cons (by repeat (first | exact Look.here | apply Look.there (hne := rfl) | exact Look.const | apply Look.mix rfl | exact Look.arg0 | apply Look.args | exact Look.func)) allLook_nil), rfl, by omega, by omega, hf⟩, by omega⟩
      · -- else_t33
        obtain rfl : i = h.length := by omega
        rw [footF_end (by omega)] at hf
        refine JC.exit ?_ -- 0
        refine JC.qs mixed (by kernel_rfl) ?_
        refine Qui.p rfl (Ev.faB fd.bourseref03_Answer_3) ?_
        refine Qui.p rfl (Ev.ldB sc.api_Errno) ?_
        refine Qui.p rfl Ev.assign ?_
        refine Qui.p rfl Ev.assign ?_
        refine Qui.p rfl Ev.assign ?_
        refine Qui.p rfl Ev.assign ?_
        refine Qui.p rfl Ev.assign ?_
        refine Qui.nil ?_
        refine JC.re (fun w hw => Upd.toNil hw (At.s (At.s (At.s At.z))) 5 1) ?_
        refine JC.ret ?_
        -- return 3
        show retQ _ _ _ _ _ _ _ _
        refine retI (RVs.t (hs := (RVs.t (hs := (RVs.t (hs := (RVs.t (hs := (RVs.t (hs := RVs.nil)))))))))) (H' := [nilC, bytesC (.slice none 0 0) []]) (by repeat (first | exact Part.nil _ | refine Part.at (by repeat (first | exact At.z | apply At.s)) ?_)) ?_
        rw [hnf, ← hf, List.drop_length]
        exact ⟨none, 0, none, 0, rfl, rfl⟩
end Go.Rx
/- The law bourselaw03.TextReaders gives true. -/
namespace Go.Rx
open Go Go.RowKit Go.Lib Go.Proofs.YtcggppjpnepoiaaDoor
set_option linter.unusedVariables false
set_option linter.unusedSimpArgs false
structure Pc where
  v : Value
  l : List Int
  asks : Int
deriving Inhabited
def Pc.enc (p : Pc) : List Value := [p.v, .int .i64 p.asks]
theorem get_mem {α : Type} [Inhabited α] {xs : List α} {i : Nat} (h : i < xs.length) : xs[i]! ∈ xs := by
  rw [getElem!_pos xs i h]
  exact List.getElem_mem _
set_option maxHeartbeats 8000000 in
set_option maxRecDepth 100000 in
theorem lawReaders {w : World} {v : Value} {ps : List Pc} (hr : RSl Pc.enc 2 w [] v ps) (hp : ∀ p ∈ ps, RSl byteEnc 1 w [] p.v p.l ∧ isBytes p.l ∧ p.l.length ≤ 140737488351232) (hL : Laid2 w) :
    Spec Go.Proofs.Tryd.prog 8 #[v] w [] (fun u _ => u = .bool true) := by
  have hsm := hr.small
  refine Spec.enter (fn := Go.Proofs.Tryd.f8) (n := 131) [v] Go.Proofs.Tryd.func8 (by kernel_rfl) rfl Go.Proofs.Tryd.ntmps8 Go.Proofs.Tryd.results8 rfl (Own.nil _) ?_
  refine JC.rs ?_
  refine Seq.p rfl Ev.assign ?_
  refine Seq.nil ?_
  refine JC.rs ?_
  refine Seq.call rfl (fun w' hw => readerNew) (F := []) (by exact List.Perm.refl _) ?_
  rintro _ _ ⟨b, rfl, rfl⟩
  simp only [List.cons_append, List.nil_append]
  refine Seq.re (fun w h => h.nilOwn 5 1) ?_
  refine Seq.p rfl Ev.assign ?_
  refine Seq.nil ?_
  refine JC.seq ?_
  refine JC.rs ?_
  refine Seq.p rfl Ev.move ?_
  refine Seq.p rfl (Ev.eqNilP und.p_text_Reader) ?_
  refine Seq.p rfl Ev.move ?_
  refine Seq.orG (D := [25, 26, 27, 28, 29]) (d := 25) (t := 29) (k := 4) (hn := fun h25 => ?_) (hx := ?_)
  · repeat (first | refine Seq.gn rfl rfl rfl rfl ?_ | refine Seq.gu rfl rfl rfl ?_)
    refine Seq.p rfl Ev.pickT ?_
    exact Seq.nil ⟨rfl, (by repeat (first | with_reducible exact Off.refl | refine Off.upd ?_ rfl | exact Off.mix | refine Off.mix2 ?_ rfl)), Look.here⟩
  apply Exists.intro
  refine ⟨fun h25 => ?_, fun u29 => ?_⟩
  · try simp only [decide_eq_true_eq, decide_eq_false_iff_not, Bool.and_eq_true, Bool.or_eq_true, Bool.not_eq_true', Bool.not_eq_false', Bool.or_eq_false_iff, Bool.and_eq_false_imp] at h25
    refine Seq.gy rfl rfl rfl ?_
    refine Seq.p rfl Ev.move ?_
    refine Seq.gy rfl rfl rfl ?_
    refine Seq.callP rfl (fun w' hw => readerWaiting (h := []) (box_cell hw (by repeat (first | exact At.z | apply At.s)) rfl) (RAt.up (RAt.own (enc := byteEnc) (xs := [])) hw)) ?_
    refine Seq.gy rfl rfl rfl ?_
    refine Seq.p rfl Ev.ne ?_
    refine Seq.p rfl Ev.pickF ?_
    exact Seq.nil ⟨rfl, (by repeat (first | with_reducible exact Off.refl | refine Off.upd ?_ rfl | exact Off.mix | refine Off.mix2 ?_ rfl)), Look.here⟩
  refine Seq.nil ?_
  first | refine JC.c (ht := fun c29 => ?_) (hf := fun c29 => ?_) | refine JC.cb (ht := fun c29 => ?_) (hf := fun c29 => ?_)
  · -- then_t29
    exfalso
    simp at c29
  · -- else_t29
    refine JC.skip ?_
    refine JC.rs ?_
    refine Seq.buildSl (cs := []) (hsl := sl.sl_uint8) (hz := z.uint8) (hcs := rfl) (k := ?_); intro b30
    refine Seq.re (fun w h => Upd.boxOwn h (n := 0) (size := 1) At.z rfl (by omega)) ?_
    refine Seq.p rfl Ev.assign ?_
    refine Seq.nil ?_
    refine JC.seq ?_
    refine JC.rs ?_
    refine Seq.p rfl Ev.assign ?_
    refine Seq.nil ?_
    refine JC.blk ?_
    refine JC.part (H' := [readerC b (.slice none 0 0), bytesC (.slice none 0 0) [], bytesC (.slice (some ⟨b30, 0, none⟩) 0 0) []]) (by repeat (first | exact Part.nil _ | refine Part.at (by repeat (first | exact At.z | apply At.s)) ?_)) ?_
    refine JC.loop (α := Nat) (I := fun i e1 H1 => ∃ A c A2 c2 h, Has [2, 4, 5, 6, 7, 8, 9, 10, 11, 12, 13, 14, 15, 16, 17, 18, 19, 20, 21, 31, 32, 33, 34, 35, 36, 37, 38, 39, 40, 41, 42, 43, 44, 45, 46, 47, 48, 49, 50, 51, 52, 53, 54, 55, 56, 57, 58, 59, 60, 61, 62, 63, 64, 65, 66, 67, 68, 69, 70, 71, 72, 73, 74, 75, 76, 77, 78, 79, 80, 81, 82, 83, 84, 85, 86, 87, 88, 89, 90, 91, 92, 93, 94, 95, 96, 97, 98, 99, 100, 101, 102, 103, 104, 105, 106, 107, 108, 109, 110, 111, 112, 113, 114, 115, 116, 117, 118, 119, 120, 121, 122, 123, 124, 125, 126, 127, 128, 129, 130] [(4, .slice A2 h.length c2), (5, .int .i64 (i : Int))] _ e1 ∧ H1 = [readerC b (.slice A h.length c), bytesC (.slice A h.length c) h, bytesC (.slice A2 h.length c2) h] ∧ i ≤ ps.length ∧ h.length ≤ 65536 ∧ isBytes h) (μ := fun i => ps.length - i) 0 ⟨none, 0, some ⟨b30, 0, none⟩, 0, [], Has.mk Off.refl (allLook_cons (by repeat (first | exact Look.here | apply Look.there (hne := rfl) | exact Look.const | apply Look.mix rfl | exact Look.arg0 | apply Look.args | exact Look.func)) (allLook_cons (by repeat (first | exact Look.here | apply Look.there (hne := rfl) | exact Look.const | apply Look.mix rfl | exact Look.arg0 | apply Look.args | exact Look.func)) allLook_nil)), rfl, by omega, Nat.zero_le _, by intro x hx; cases hx⟩ ?_
    rintro i _ _ ⟨A, c, A2, c2, h, ⟨u, rfl⟩, rfl, hi, hh, hB⟩; dsimp only [setL]
    refine JC.seq ?_
    refine JC.rs ?_
    refine Seq.p rfl Ev.move ?_
    refine Seq.p rfl Ev.move ?_
    refine Seq.p rfl (Ev.lenSl sl.sl_bourselaw03_Piece (hr := hr.r)) ?_
    refine Seq.p rfl Ev.lt ?_
    refine Seq.nil ?_
    first | refine JC.c (ht := fun c34 => ?_) (hf := fun c34 => ?_) | refine JC.cb (ht := fun c34 => ?_) (hf := fun c34 => ?_)
    · -- then_t34
      have hi2 : i < ps.length := by omega
      obtain ⟨hb1, hb2, hb3⟩ := hp _ (get_mem hi2)
      have hal : ((ps[i]!).l ++ markN 32).length = (ps[i]!).l.length + 32 := by rw [List.length_append, markN_len]
      refine JC.skip ?_
      refine JC.seq ?_
      refine JC.blk ?_
      refine JC.rs ?_
      refine Seq.p rfl Ev.move ?_
      refine Seq.p rfl Ev.move ?_
      refine Seq.p rfl (Ev.iaN sl.sl_bourselaw03_Piece (hr := hr.r)) ?_
      refine Seq.p rfl (Ev.fa fd.bourselaw03_Piece_0) ?_
      refine Seq.p rfl (Ev.ldE sc.sl_uint8 (hr := hr.r)) ?_
      refine Seq.p rfl Ev.assign ?_
      refine Seq.nil ?_
      refine JC.rs ?_
      refine Seq.p rfl Ev.move ?_
      refine Seq.call rfl (fun w' hw => lawLent (hb1.up hw) hb3) (F := _) (by exact List.Perm.refl _) ?_
      rintro _ _ ⟨A3, c3, rfl, rfl⟩
      simp only [List.cons_append, List.nil_append]
      refine Seq.p rfl Ev.move ?_
      refine Seq.p rfl Ev.extract ?_
      refine Seq.p rfl Ev.extract ?_
      refine Seq.p rfl Ev.assign ?_
      refine Seq.p rfl Ev.assign ?_
      refine Seq.nil ?_
      refine JC.rs ?_
      refine Seq.p rfl Ev.move ?_
      refine Seq.p rfl Ev.move ?_
      refine Seq.call rfl (fun w' hw => readerFeed ((lentSub (v := .slice A3 ((ps[i]!).l.length + 32) c3) (RSl.owned (enc := byteEnc) (xs := (ps[i]!).l ++ markN 32) At.z hw rfl rfl (fun _ => rfl) (by omega))).part (by repeat (first | exact Part.nil _ | refine Part.at (by repeat (first | exact At.z | apply At.s)) ?_))) (hw.part (by repeat (first | exact Part.nil _ | refine Part.at (by repeat (first | exact At.z | apply At.s)) ?_))).own hh) (Gs := [readerC b (.slice A h.length c), bytesC (.slice A h.length c) h]) (F := [_, _]) (by exact (List.perm_append_comm (l₁ := [_, _]) (l₂ := [_])).append_right [_]) ?_
      rintro _ _ ⟨A4, c4, rfl, rfl⟩
      simp only [List.cons_append, List.nil_append]
      refine Seq.p rfl Ev.assign ?_
      refine Seq.nil ?_
      refine JC.seq ?_
      refine JC.rs ?_
      refine Seq.p rfl Ev.move ?_
      refine Seq.p rfl Ev.move ?_
      refine Seq.callP rfl (fun w hw => lawKept (RAt.up (RAt.own (enc := byteEnc) (xs := (ps[i]!).l ++ markN 32)) hw) (hb1.up hw) hb3) ?_
      refine Seq.p rfl Ev.not ?_
      refine Seq.nil ?_
      first | refine JC.c (ht := fun c53 => ?_) (hf := fun c53 => ?_) | refine JC.cb (ht := fun c53 => ?_) (hf := fun c53 => ?_)
      · -- then_t53
        exfalso
        simp at c53
      · -- else_t53
        refine JC.skip ?_
        refine JC.rs ?_
        refine Seq.p rfl Ev.move ?_
        refine Seq.re (fun w h => lentCut h (At.s (At.s At.z))) ?_
        obtain ⟨A5, q5, h5⟩ : ∃ A c, subSl (.slice A3 ((ps[i]!).l.length + 32) c3) 0 (ps[i]!).l.length 1 = .slice A (ps[i]!).l.length c := ⟨_, _, rfl⟩
        rw [h5]
        refine Seq.call rfl (fun w hw => lawFull hb3 (hw.part (by repeat (first | exact Part.nil _ | refine Part.at (by repeat (first | exact At.z | apply At.s)) ?_))).own) (Gs := [bytesC (.slice A5 (ps[i]!).l.length q5) (ps[i]!).l]) (F := [_, _, _]) (by exact (List.perm_append_comm (l₁ := [_]) (l₂ := [_, _])).append_right [_]) ?_
        rintro _ _ rfl
        simp only [List.nil_append]
        refine Seq.nil ?_
        refine JC.rs ?_
        refine Seq.p rfl Ev.move ?_
        refine Seq.p rfl Ev.move ?_
        refine Seq.call rfl (fun w' hw => refFeed ((hb1.at_ hw).part (by repeat (first | exact Part.nil _ | refine Part.at (by repeat (first | exact At.z | apply At.s)) ?_))) (hw.part (by repeat (first | exact Part.nil _ | refine Part.at (by repeat (first | exact At.z | apply At.s)) ?_))).own hh hb3) (Gs := [bytesC (.slice A2 h.length c2) h]) (F := [_, _]) (by exact (List.perm_append_comm (l₁ := [_]) (l₂ := [_, _]))) ?_
        rintro _ _ ⟨A6, c6, rfl, rfl⟩
        simp only [List.cons_append, List.nil_append]
        have hfl := feedF_len (b := (ps[i]!).l) hh
        have hfb := feedF_bytes hB hb2
        generalize feedF h (ps[i]!).l = fe at hfl hfb ⊢
        refine Seq.p rfl Ev.move ?_
        refine Seq.p rfl Ev.extract ?_
        refine Seq.p rfl Ev.extract ?_
        refine Seq.p rfl Ev.assign ?_
        refine Seq.p rfl Ev.assign ?_
        refine Seq.nil ?_
        refine JC.rs ?_
        refine Seq.p rfl Ev.move ?_
        refine Seq.p rfl Ev.assign ?_
        refine Seq.nil ?_
        refine JC.seq ?_
        refine JC.rs ?_
        refine Seq.p rfl Ev.move ?_
        refine Seq.p rfl Ev.move ?_
        refine Seq.p rfl Ev.ne ?_
        refine Seq.p rfl Ev.move ?_
        refine Seq.orG (D := [66, 67, 68, 69, 70, 71, 72]) (d := 66) (t := 72) (k := 6) (hn := fun h66 => ?_) (hx := ?_)
        · repeat (first | refine Seq.gn rfl rfl rfl rfl ?_ | refine Seq.gu rfl rfl rfl ?_)
          refine Seq.p rfl Ev.pickT ?_
          exact Seq.nil ⟨rfl, (by repeat (first | with_reducible exact Off.refl | refine Off.upd ?_ rfl | exact Off.mix | refine Off.mix2 ?_ rfl)), Look.here⟩
        apply Exists.intro
        refine ⟨fun h66 => ?_, fun u72 => ?_⟩
        · try simp only [decide_eq_true_eq, decide_eq_false_iff_not, Bool.and_eq_true, Bool.or_eq_true, Bool.not_eq_true', Bool.not_eq_false', Bool.or_eq_false_iff, Bool.and_eq_false_imp] at h66
          refine Seq.gy rfl rfl rfl ?_
          refine Seq.p rfl Ev.move ?_
          refine Seq.gy rfl rfl rfl ?_
          refine Seq.callP rfl (fun w' hw => readerWaiting (h := fe.1) (box_cell hw (by repeat (first | exact At.z | apply At.s)) rfl) (RAt.up (RAt.own (enc := byteEnc) (xs := fe.1)) hw)) ?_
          refine Seq.gy rfl rfl rfl ?_
          refine Seq.p rfl Ev.move ?_
          refine Seq.gy rfl rfl rfl ?_
          refine Seq.p rfl (Ev.lenSl sl.sl_uint8 (hr := RAt.own (enc := byteEnc) (xs := fe.1))) ?_
          refine Seq.gy rfl rfl rfl ?_
          refine Seq.p rfl Ev.ne ?_
          refine Seq.p rfl Ev.pickF ?_
          exact Seq.nil ⟨rfl, (by repeat (first | with_reducible exact Off.refl | refine Off.upd ?_ rfl | exact Off.mix | refine Off.mix2 ?_ rfl)), Look.here⟩
        refine Seq.nil ?_
        first | refine JC.c (ht := fun c72 => ?_) (hf := fun c72 => ?_) | refine JC.cb (ht := fun c72 => ?_) (hf := fun c72 => ?_)
        · -- then_t72
          exfalso
          simp at c72
        · -- else_t72
          refine JC.skip ?_
          refine JC.rs ?_
          refine Seq.p rfl Ev.assign ?_
          refine Seq.nil ?_
          refine JC.blk ?_
          refine JC.part (H' := [readerC b (.slice A4 fe.1.length c4), bytesC (.slice A4 fe.1.length c4) fe.1, bytesC (.slice A6 fe.1.length c6) fe.1]) (by repeat (first | exact Part.nil _ | refine Part.at (by repeat (first | exact At.z | apply At.s)) ?_)) ?_
          refine JC.loop (α := Nat) (I := fun j e1 H1 => ∃ A c A2 c2 h, Has [2, 4, 12, 13, 14, 15, 16, 17, 18, 19, 20, 21, 73, 74, 75, 76, 77, 78, 79, 80, 81, 82, 83, 84, 85, 86, 87, 88, 89, 90, 91, 92, 93, 94, 95, 96, 97, 98, 99, 100, 101, 102, 103, 104, 105, 106, 107, 108, 109, 110, 111, 112, 113, 114, 115, 116, 117, 118, 119, 120, 121, 122, 123, 124, 125, 126, 127, 128, 129, 130] [(4, .slice A2 h.length c2), (12, .int .i64 (j : Int))] _ e1 ∧ H1 = [readerC b (.slice A h.length c), bytesC (.slice A h.length c) h, bytesC (.slice A2 h.length c2) h] ∧ h.length ≤ 65536 ∧ isBytes h) (μ := fun j => (ps[i]!).asks.toNat - j) 0 ⟨A4, c4, A6, c6, fe.1, Has.mk Off.refl (allLook_cons (by repeat (first | exact Look.here | apply Look.there (hne := rfl) | exact Look.const | apply Look.mix rfl | exact Look.arg0 | apply Look.args | exact Look.func)) (allLook_cons (by repeat (first | exact Look.here | apply Look.there (hne := rfl) | exact Look.const | apply Look.mix rfl | exact Look.arg0 | apply Look.args | exact Look.func)) allLook_nil)), rfl, hfl, hfb⟩ ?_
          rintro j _ _ ⟨A, c, A2, c2, h, ⟨u2, rfl⟩, rfl, hh, hB⟩; dsimp only [setL]
          have hnl := nextF_len h
          have hnb := nextF_bytes hB
          have hnt := nextF_tags h hh
          refine JC.seq ?_
          refine JC.rs ?_
          refine Seq.p rfl Ev.move ?_
          refine Seq.p rfl Ev.move ?_
          refine Seq.p rfl Ev.move ?_
          refine Seq.p rfl (Ev.iaN sl.sl_bourselaw03_Piece (hr := hr.r)) ?_
          refine Seq.p rfl (Ev.fa fd.bourselaw03_Piece_1) ?_
          refine Seq.p rfl (Ev.ldE sc.int (hr := hr.r)) ?_
          refine Seq.p rfl Ev.lt ?_
          refine Seq.p rfl Ev.move ?_
          refine Seq.andG (D := [80, 81, 82, 83, 84, 85, 86]) (d := 80) (t := 86) (k := 6) (hn := fun h80 => ?_) (hx := ?_)
          · repeat (first | refine Seq.gn rfl rfl rfl rfl ?_ | refine Seq.gu rfl rfl rfl ?_)
            refine Seq.p rfl Ev.pickF ?_
            exact Seq.nil ⟨rfl, (by repeat (first | with_reducible exact Off.refl | refine Off.upd ?_ rfl | exact Off.mix | refine Off.mix2 ?_ rfl)), Look.here⟩
          apply Exists.intro
          refine ⟨fun h80 => ?_, fun u86 => ?_⟩
          · try simp only [decide_eq_true_eq, decide_eq_false_iff_not, Bool.and_eq_true, Bool.or_eq_true, Bool.not_eq_true', Bool.not_eq_false', Bool.or_eq_false_iff, Bool.and_eq_false_imp] at h80
            refine Seq.gy rfl rfl rfl ?_
            refine Seq.p rfl Ev.move ?_
            refine Seq.gy rfl rfl rfl ?_
            refine Seq.p rfl Ev.move ?_
            refine Seq.gy rfl rfl rfl ?_
            refine Seq.p rfl (Ev.lenSl sl.sl_uint8 (hr := RAt.own (enc := byteEnc) (xs := h))) ?_
            refine Seq.gy rfl rfl rfl ?_
            refine Seq.p rfl (Ev.addN (m := h.length) (c := 1)) ?_
            refine Seq.gy rfl rfl rfl ?_
            refine Seq.p rfl Ev.le ?_
            refine Seq.p rfl Ev.pickT ?_
            exact Seq.nil ⟨rfl, (by repeat (first | with_reducible exact Off.refl | refine Off.upd ?_ rfl | exact Off.mix | refine Off.mix2 ?_ rfl)), Look.here⟩
          refine Seq.nil ?_
          first | refine JC.c (ht := fun c86 => ?_) (hf := fun c86 => ?_) | refine JC.cb (ht := fun c86 => ?_) (hf := fun c86 => ?_)
          · -- then_t86
            simp only [Bool.and_eq_true, decide_eq_true_eq] at c86
            refine JC.skip ?_
            refine JC.seq ?_
            refine JC.blk ?_
            refine JC.rs ?_
            refine Seq.p rfl Ev.move ?_
            refine Seq.call rfl (fun w' hw => readerNext (hw.part (by repeat (first | exact Part.nil _ | refine Part.at (by repeat (first | exact At.z | apply At.s)) ?_))) hL hB hh) (F := [_]) (by exact List.Perm.refl _) ?_
            rintro _ _ ⟨A7, c7, A8, c8, rfl, rfl⟩
            simp only [List.cons_append, List.nil_append]
            refine Seq.p rfl Ev.move ?_
            refine Seq.p rfl Ev.extract ?_
            refine Seq.p rfl Ev.extract ?_
            refine Seq.p rfl Ev.extract ?_
            refine Seq.p rfl Ev.extract ?_
            refine Seq.p rfl Ev.assign ?_
            refine Seq.p rfl Ev.assign ?_
            refine Seq.p rfl Ev.assign ?_
            refine Seq.p rfl Ev.assign ?_
            refine Seq.nil ?_
            refine JC.rs ?_
            refine Seq.p rfl Ev.move ?_
            refine Seq.call rfl (fun w' hw => refNext (hw.part (by repeat (first | exact Part.nil _ | refine Part.at (by repeat (first | exact At.z | apply At.s)) ?_))).own hB hh) (Gs := [bytesC (.slice A2 h.length c2) h]) (F := [_, _, _]) (by exact (List.perm_append_comm (l₁ := [_]) (l₂ := [_, _, _]))) ?_
            rintro _ _ ⟨A9, c9, A10, c10, rfl, rfl⟩
            simp only [List.cons_append, List.nil_append]
            generalize nextF h = nx at hnl hnb hnt ⊢
            refine Seq.p rfl Ev.move ?_
            refine Seq.p rfl Ev.extract ?_
            refine Seq.p rfl Ev.extract ?_
            refine Seq.p rfl Ev.extract ?_
            refine Seq.p rfl Ev.extract ?_
            refine Seq.p rfl Ev.extract ?_
            refine Seq.p rfl Ev.assign ?_
            refine Seq.p rfl Ev.assign ?_
            refine Seq.p rfl Ev.assign ?_
            refine Seq.p rfl Ev.assign ?_
            refine Seq.p rfl Ev.assign ?_
            refine Seq.nil ?_
            refine JC.rs ?_
            refine Seq.p rfl Ev.move ?_
            refine Seq.p rfl Ev.assign ?_
            refine Seq.nil ?_
            refine JC.rs ?_
            refine Seq.p rfl Ev.move ?_
            refine Seq.p rfl Ev.move ?_
            refine Seq.p rfl Ev.neStr ?_
            refine Seq.p rfl Ev.move ?_
            refine Seq.orG (D := [108, 109, 110, 111, 112, 113]) (d := 108) (t := 113) (k := 5) (hn := fun h108 => ?_) (hx := ?_)
            · repeat (first | refine Seq.gn rfl rfl rfl rfl ?_ | refine Seq.gu rfl rfl rfl ?_)
              refine Seq.p rfl Ev.pickT ?_
              exact Seq.nil ⟨rfl, (by repeat (first | with_reducible exact Off.refl | refine Off.upd ?_ rfl | exact Off.mix | refine Off.mix2 ?_ rfl)), Look.here⟩
            apply Exists.intro
            refine ⟨fun h108 => ?_, fun u113 => ?_⟩
            · try simp only [decide_eq_true_eq, decide_eq_false_iff_not, Bool.and_eq_true, Bool.or_eq_true, Bool.not_eq_true', Bool.not_eq_false', Bool.or_eq_false_iff, Bool.and_eq_false_imp] at h108
              refine Seq.gy rfl rfl rfl ?_
              refine Seq.p rfl Ev.move ?_
              refine Seq.gy rfl rfl rfl ?_
              refine Seq.p rfl Ev.move ?_
              refine Seq.gy rfl rfl rfl ?_
              refine Seq.callP rfl (fun w hw => lawTags (RAt.up (RAt.own (enc := Tg.enc) (xs := nx.tags)) hw) (RAt.up (RAt.own (enc := Tg.enc) (xs := nx.tags)) hw)) ?_
              refine Seq.gy rfl rfl rfl ?_
              refine Seq.p rfl Ev.not ?_
              refine Seq.p rfl Ev.pickF ?_
              exact Seq.nil ⟨rfl, (by repeat (first | with_reducible exact Off.refl | refine Off.upd ?_ rfl | exact Off.mix | refine Off.mix2 ?_ rfl)), Look.here⟩
            refine Seq.p rfl Ev.move ?_
            refine Seq.orG (D := [114, 115, 116, 117, 118]) (d := 114) (t := 118) (k := 4) (hn := fun h114 => ?_) (hx := ?_)
            · repeat (first | refine Seq.gn rfl rfl rfl rfl ?_ | refine Seq.gu rfl rfl rfl ?_)
              refine Seq.p rfl Ev.pickT ?_
              exact Seq.nil ⟨rfl, (by repeat (first | with_reducible exact Off.refl | refine Off.upd ?_ rfl | exact Off.mix | refine Off.mix2 ?_ rfl)), Look.here⟩
            apply Exists.intro
            refine ⟨fun h114 => ?_, fun u118 => ?_⟩
            · try simp only [decide_eq_true_eq, decide_eq_false_iff_not, Bool.and_eq_true, Bool.or_eq_true, Bool.not_eq_true', Bool.not_eq_false', Bool.or_eq_false_iff, Bool.and_eq_false_imp] at h114
              refine Seq.gy rfl rfl rfl ?_
              refine Seq.p rfl Ev.move ?_
              refine Seq.gy rfl rfl rfl ?_
              refine Seq.p rfl Ev.move ?_
              refine Seq.gy rfl rfl rfl ?_
              refine Seq.p rfl (Ev.neB bl.bool) ?_
              refine Seq.p rfl Ev.pickF ?_
              exact Seq.nil ⟨rfl, (by repeat (first | with_reducible exact Off.refl | refine Off.upd ?_ rfl | exact Off.mix | refine Off.mix2 ?_ rfl)), Look.here⟩
            refine Seq.p rfl Ev.move ?_
            refine Seq.orG (D := [119, 120, 121, 122, 123]) (d := 119) (t := 123) (k := 4) (hn := fun h119 => ?_) (hx := ?_)
            · repeat (first | refine Seq.gn rfl rfl rfl rfl ?_ | refine Seq.gu rfl rfl rfl ?_)
              refine Seq.p rfl Ev.pickT ?_
              exact Seq.nil ⟨rfl, (by repeat (first | with_reducible exact Off.refl | refine Off.upd ?_ rfl | exact Off.mix | refine Off.mix2 ?_ rfl)), Look.here⟩
            apply Exists.intro
            refine ⟨fun h119 => ?_, fun u123 => ?_⟩
            · try simp only [decide_eq_true_eq, decide_eq_false_iff_not, Bool.and_eq_true, Bool.or_eq_true, Bool.not_eq_true', Bool.not_eq_false', Bool.or_eq_false_iff, Bool.and_eq_false_imp] at h119
              refine Seq.gy rfl rfl rfl ?_
              refine Seq.p rfl Ev.move ?_
              refine Seq.gy rfl rfl rfl ?_
              refine Seq.p rfl Ev.move ?_
              refine Seq.gy rfl rfl rfl ?_
              refine Seq.p rfl Ev.ne ?_
              refine Seq.p rfl Ev.pickF ?_
              exact Seq.nil ⟨rfl, (by repeat (first | with_reducible exact Off.refl | refine Off.upd ?_ rfl | exact Off.mix | refine Off.mix2 ?_ rfl)), Look.here⟩
            refine Seq.p rfl Ev.move ?_
            refine Seq.orG (D := [124, 125, 126, 127, 128, 129, 130]) (d := 124) (t := 130) (k := 6) (hn := fun h124 => ?_) (hx := ?_)
            · repeat (first | refine Seq.gn rfl rfl rfl rfl ?_ | refine Seq.gu rfl rfl rfl ?_)
              refine Seq.p rfl Ev.pickT ?_
              exact Seq.nil ⟨rfl, (by repeat (first | with_reducible exact Off.refl | refine Off.upd ?_ rfl | exact Off.mix | refine Off.mix2 ?_ rfl)), Look.here⟩
            apply Exists.intro
            refine ⟨fun h124 => ?_, fun u130 => ?_⟩
            · try simp only [decide_eq_true_eq, decide_eq_false_iff_not, Bool.and_eq_true, Bool.or_eq_true, Bool.not_eq_true', Bool.not_eq_false', Bool.or_eq_false_iff, Bool.and_eq_false_imp] at h124
              refine Seq.gy rfl rfl rfl ?_
              refine Seq.p rfl Ev.move ?_
              refine Seq.gy rfl rfl rfl ?_
              refine Seq.callP rfl (fun w' hw => readerWaiting (h := nx.held) (box_cell hw (by repeat (first | exact At.z | apply At.s)) rfl) (RAt.up (RAt.own (enc := byteEnc) (xs := nx.held)) hw)) ?_
              refine Seq.gy rfl rfl rfl ?_
              refine Seq.p rfl Ev.move ?_
              refine Seq.gy rfl rfl rfl ?_
              refine Seq.p rfl (Ev.lenSl sl.sl_uint8 (hr := RAt.own (enc := byteEnc) (xs := nx.held))) ?_
              refine Seq.gy rfl rfl rfl ?_
              refine Seq.p rfl Ev.ne ?_
              refine Seq.p rfl Ev.pickF ?_
              exact Seq.nil ⟨rfl, (by repeat (first | with_reducible exact Off.refl | refine Off.upd ?_ rfl | exact Off.mix | refine Off.mix2 ?_ rfl)), Look.here⟩
            refine Seq.nil ?_
            first | refine JC.c (ht := fun c130 => ?_) (hf := fun c130 => ?_) | refine JC.cb (ht := fun c130 => ?_) (hf := fun c130 => ?_)
            · -- then_t130
              exfalso
              simp at c130
            · -- else_t130
              refine JC.skip ?_
              refine JC.reg ?_
              refine Seq.p rfl Ev.move ?_
              refine Seq.p rfl (by first | exact Ev.inc | exact Ev.add) ?_
              refine Seq.p rfl Ev.assign ?_
              refine Seq.nil ?_
              exact ⟨j + 1, [readerC b (.slice A8 nx.held.length c8), bytesC (.slice A8 nx.held.length c8) nx.held, bytesC (.slice A10 nx.held.length c10) nx.held], (by repeat (first | exact Part.nil _ | refine Part.at (by repeat (first | exact At.z | apply At.s)) ?_)), ⟨A8, c8, A10, c10, nx.held, Has.mk (by repeat (first | refine Off.upd ?_ rfl | exact Off.mix | refine Off.mix2 ?_ rfl | exact Off.refl)) (allLook_cons (by repeat (first | exact Look.here | apply Look.there (hne := rfl) | exact Look.const | apply Look.mix rfl | exact Look.arg0 | apply Look.args | exact Look.func)) (allLook_cons (by repeat (first | exact Look.here | apply Look.there (hne := rfl) | exact Look.const | apply Look.mix rfl | exact Look.arg0 | apply Look.args | exact Look.func)) allLook_nil)), rfl, by omega, hnb⟩, by omega⟩
          · -- else_t86
            refine JC.exit ?_ -- 2
            refine JC.reg ?_
            refine Seq.p rfl Ev.move ?_
            refine Seq.p rfl (by first | exact Ev.inc | exact Ev.add) ?_
            refine Seq.p rfl Ev.assign ?_
            refine Seq.nil ?_
            exact ⟨i + 1, _, Part.refl _, ⟨A, c, A2, c2, h, Has.mk (by repeat (first | refine Off.upd ?_ rfl | exact Off.mix | refine Off.mix2 ?_ rfl | exact Off.refl)) (allLook_cons (by repeat (first | exact Look.here | apply Look.there (hne := rfl) | exact Look.const | apply Look.mix rfl | exact Look.arg0 | apply Look.args | exact Look.func)) (allLook_cons (by repeat (first | exact Look.here | apply Look.there (hne := rfl) | exact Look.const | apply Look.mix rfl | exact Look.arg0 | apply Look.args | exact Look.func)) allLook_nil)), rfl, by omega, hh, hB⟩, by omega⟩
    · -- else_t34
      refine JC.exit ?_ -- 0
      refine JC.rs ?_
      refine Seq.p rfl Ev.assign ?_
      refine Seq.nil ?_
      refine JC.ret ?_
      -- return 0
      show retQ _ _ _ _ _ _ _ _
      refine ret1 (hp := Part.nil _) (hpost := ?_)
      rfl
end Go.Rx
/- In pieces the same lines: the plain law of readers. -/
namespace Go.Rx
open Go Go.RowKit Go.Lib Go.Proofs.YtcggppjpnepoiaaDoor
set_option linter.unusedVariables false
set_option linter.unusedSimpArgs false
theorem nextF_lt {h : List Int} (hn : ¬ (readF h).why = 20) : (nextF h).held.length < h.length := by
  have hne : h ≠ [] := by rintro rfl; exact hn readF_nil
  have hp : 0 < h.length := List.length_pos_iff.2 hne
  by_cases h2 : (readF h).size ≠ 0
  · rw [nextF_line hn h2]
    show (h.drop (readF h).size).length < h.length
    rw [List.length_drop]
    omega
  · rw [nextF_foot hn h2]
    show (h.drop (footF h 1)).length < h.length
    have := footF_ge (h := h) (i := 1) (by omega)
    rw [List.length_drop]
    omega
/-- The lines that come out of bytes, and the bytes that then wait. -/
def outF (h : List Int) : List (List Int) × List Int :=
  if hn : (readF h).why = 20 then ([], h)
  else ((if (nextF h).ok = true then [(encF (nextF h).kind (nextF h).tags).2] else []) ++ (outF (nextF h).held).1, (outF (nextF h).held).2)
termination_by h.length
decreasing_by all_goals exact nextF_lt hn
theorem outF_short {h : List Int} (hn : (readF h).why = 20) : outF h = ([], h) := by rw [outF, dif_pos hn]
theorem outF_step {h : List Int} (hn : ¬ (readF h).why = 20) : outF h = ((if (nextF h).ok = true then [(encF (nextF h).kind (nextF h).tags).2] else []) ++ (outF (nextF h).held).1, (outF (nextF h).held).2) := by
  conv => lhs; rw [outF, dif_neg hn]
theorem get_appl {a b : List Int} {i : Nat} (h : i < a.length) : (a ++ b)[i]! = a[i]! := get_app_left h
theorem firstF_appl {c : Int} : ∀ {a b : List Int}, firstF c a < a.length → firstF c (a ++ b) = firstF c a
  | [], b, h => by simp at h
  | x :: r, b, h => by
    unfold firstF at h
    by_cases hx : x = c
    · have e1 : firstF c (x :: r ++ b) = 0 := if_pos hx
      have e2 : firstF c (x :: r) = 0 := if_pos hx
      rw [e1, e2]
    · have e1 : firstF c (x :: r ++ b) = firstF c (r ++ b) + 1 := if_neg hx
      have e2 : firstF c (x :: r) = firstF c r + 1 := if_neg hx
      rw [if_neg hx] at h
      rw [e1, e2, firstF_appl (a := r) (by simpa using h)]
theorem preF_app {h x : List Int} : ∀ (k i : Nat), (preF h k i < h.length ∨ preF h k i = i + k) → preF (h ++ x) k i = preF h k i
  | 0, i, _ => rfl
  | k + 1, i, hc => by
    unfold preF at hc ⊢
    by_cases h1 : i < h.length
    · rw [get_appl h1]
      by_cases h2 : h[i]! = beginL[i]!
      · rw [if_pos ⟨h1, h2⟩] at hc
        rw [if_pos ⟨by rw [List.length_append]; omega, h2⟩, if_pos ⟨h1, h2⟩]
        exact preF_app k (i + 1) (by omega)
      · rw [if_neg (fun hh => h2 hh.2), if_neg (fun hh => h2 hh.2)]
    · rw [if_neg (fun hh => h1 hh.1)] at hc
      omega
theorem dgF_app {h x : List Int} : ∀ (k n : Nat), 10 + dgF h k n < h.length → dgF (h ++ x) k n = dgF h k n
  | 0, n, _ => rfl
  | k + 1, n, hc => by
    unfold dgF at hc ⊢
    by_cases h1 : 10 + n < h.length
    · rw [get_appl h1]
      by_cases h2 : digit h[10 + n]! = true
      · rw [if_pos ⟨h1, h2⟩] at hc
        rw [if_pos ⟨by rw [List.length_append]; omega, h2⟩, if_pos ⟨h1, h2⟩]
        exact dgF_app k (n + 1) hc
      · rw [if_neg (fun hh => h2 hh.2), if_neg (fun hh => h2 hh.2)]
    · rw [if_neg (fun hh => h1 hh.1)] at hc
      omega
theorem headF_app {h x : List Int} (hn : ∀ a, headF h ≠ .bad a 20) : headF (h ++ x) = headF h := by
  have hpl := preF_len h 10 0 (Nat.zero_le _)
  have hp10 := preF_le h 10 0
  by_cases h1 : preF h 10 0 < 10
  · have h2 : preF h 10 0 ≠ h.length := fun h2 => by
      refine hn (preF h 10 0 : Nat) ?_
      unfold headF
      rw [if_pos h1, if_pos h2]
    have hpa := preF_app (h := h) (x := x) 10 0 (.inl (by omega))
    unfold headF
    rw [hpa, if_pos h1, if_pos h1, if_neg h2, if_neg (by rw [List.length_append]; omega)]
  · have hpe : preF h 10 0 = 10 := by omega
    have h10 : 10 ≤ h.length := by omega
    have hpa := preF_app (h := h) (x := x) 10 0 (.inr (by omega))
    have hdl := dgF_len h 5 0 (by omega)
    have h2 : 10 + dgF h 5 0 ≠ h.length := fun h2 => by
      refine hn h.length ?_
      unfold headF
      rw [if_neg h1, if_pos h2]
    have hlt : 10 + dgF h 5 0 < h.length := by omega
    have hda := dgF_app (h := h) (x := x) 5 0 hlt
    have htk : ((h ++ x).drop 10).take (dgF h 5 0) = (h.drop 10).take (dgF h 5 0) := by
      rw [List.drop_append_of_le_length h10, List.take_append_of_le_length (by rw [List.length_drop]; omega)]
    unfold headF
    rw [hpa, hda, if_neg h1, if_neg h1, if_neg h2, if_neg (by rw [List.length_append]; omega), htk, get_appl hlt]
theorem partsF_app {h x : List Int} {f to : Nat} (ht : to ≤ h.length) (h1 : h[to - 1]! = 1) : ∀ {p : Nat} {kind : ByteArray} {xs : List Tg}, partsF (h ++ x) f to p kind xs = partsF h f to p kind xs := by
  intro p kind xs
  generalize hd : to - p = d
  induction d using Nat.strongRecOn generalizing p kind xs with
  | _ d ih =>
    by_cases hlt : p < to
    · have hin := first_in hlt ht h1
      have hdr : (h ++ x).drop p = h.drop p ++ x := List.drop_append_of_le_length (by omega)
      have hff : firstF 1 ((h ++ x).drop p) = firstF 1 (h.drop p) := by rw [hdr]; exact firstF_appl (by rw [List.length_drop]; omega)
      have hfa : fieldAt (h ++ x) p = fieldAt h p := by
        unfold fieldAt
        rw [hff, hdr, List.take_append_of_le_length (by rw [List.length_drop]; omega)]
      rcases htk : takeF (fieldAt h p) (decide (p = f)) kind xs with ⟨e, k1, xs1⟩
      have htk2 : takeF (fieldAt (h ++ x) p) (decide (p = f)) kind xs = (e, k1, xs1) := by rw [hfa]; exact htk
      by_cases he : e = 0
      · subst he
        rw [partsF_step hlt htk, partsF_step hlt htk2, hff]
        exact ih (to - (p + firstF 1 (h.drop p) + 1)) (by omega) rfl
      · rw [partsF_bad hlt htk he, partsF_bad hlt htk2 he]
    · rw [partsF_end hlt, partsF_end hlt]
/-- What is told of a line that is told, is told whatever comes behind. -/
theorem readF_app {h x : List Int} (hn : ¬ (readF h).why = 20) : readF (h ++ x) = readF h := by
  have hh : ∀ a, headF h ≠ .bad a 20 := fun a ha => hn (by rw [readF_bad ha]; rfl)
  have hha := headF_app (x := x) hh
  cases hq : headF h with
  | bad a c => rw [readF_bad hq, readF_bad (hha.trans hq)]
  | ok f k =>
    have hqa := hha.trans hq
    obtain ⟨q1, q2, q3⟩ := head_from hq
    by_cases h1 : 2048 < f + k + 7
    · rw [readF_long hq h1, readF_long hqa h1]
    · by_cases h2 : h.length < f + k + 7
      · exact absurd (by rw [readF_short hq h1 h2]; rfl) hn
      · have h2a : ¬ (h ++ x).length < f + k + 7 := by rw [List.length_append]; omega
        have hT : ((h ++ x).drop (f + k)).take 7 = (h.drop (f + k)).take 7 := by
          rw [List.drop_append_of_le_length (by omega), List.take_append_of_le_length (by rw [List.length_drop]; omega)]
        have hG : (h ++ x)[f + k - 1]! = h[f + k - 1]! := get_appl (by omega)
        have hF : (h ++ x).take (f + k) = h.take (f + k) := List.take_append_of_le_length (by omega)
        by_cases h3 : trailB ((h.drop (f + k)).take 7) = false ∨ k = 0 ∨ h[f + k - 1]! ≠ 1
        · rw [readF_body hq h1 h2 h3, readF_body hqa h1 h2a (by rw [hT, hG]; exact h3)]
        · by_cases h4 : (h.drop (f + k)).take 7 ≠ lastL (h.take (f + k))
          · rw [readF_trail hq h1 h2 h3 h4, readF_trail hqa h1 h2a (by rw [hT, hG]; exact h3) (by rw [hT, hF]; exact h4)]
          · rw [readF_parts hq h1 h2 h3 h4, readF_parts hqa h1 h2a (by rw [hT, hG]; exact h3) (by rw [hT, hF]; exact h4)]
            rw [partsF_app (by omega) (Classical.not_not.1 fun hh => h3 (.inr (.inr hh)))]
theorem footAt_nil {h : List Int} {k : Nat} (hk : k + 1 < h.length) (x : List Int) : footAt (h ++ x) k = footAt h k := by
  unfold footAt
  rw [get_appl (by omega), get_appl hk, List.length_append]
  rw [show decide (k + 1 = h.length + x.length) = false from decide_eq_false (by omega), show decide (k + 1 = h.length) = false from decide_eq_false (by omega)]
theorem footAt_miss {h x : List Int} {k : Nat} (hk : k < h.length) (hf : footAt h k = false) : footAt (h ++ x) k = false := by
  by_cases h1 : k + 1 < h.length
  · rw [footAt_nil h1]; exact hf
  · have e : k + 1 = h.length := by omega
    unfold footAt at hf ⊢
    rw [show decide (k + 1 = h.length) = true from decide_eq_true e, Bool.true_or, Bool.and_true] at hf
    rw [get_appl hk, hf, Bool.false_and]
theorem footF_skip {y : List Int} {i : Nat} : ∀ {j : Nat}, j ≤ i → i ≤ y.length → (∀ k, j ≤ k → k < i → footAt y k = false) → footF y j = footF y i := by
  intro j hj hi hn
  generalize hd : i - j = d
  induction d generalizing j with
  | zero => obtain rfl : j = i := by omega
            rfl
  | succ d ih =>
    rw [footF_step (by omega) (hn j (Nat.le_refl _) (by omega))]
    exact ih (by omega) (fun k h1 h2 => hn k (by omega) h2) (by omega)
theorem footF_before {h : List Int} : ∀ {j : Nat}, ∀ k, j ≤ k → k < footF h j → footAt h k = false := by
  intro j
  generalize hd : h.length - j = d
  induction d using Nat.strongRecOn generalizing j with
  | _ d ih =>
    intro k h1 h2
    by_cases hj : j < h.length
    · cases hf : footAt h j with
      | true => rw [footF_hit hj hf] at h2; omega
      | false =>
        by_cases hk : k = j
        · rw [hk]; exact hf
        · rw [footF_step hj hf] at h2
          exact ih (h.length - (j + 1)) (by omega) rfl k (by omega) h2
    · rw [footF_end hj] at h2
      omega
theorem footAt_drop {y : List Int} {i k : Nat} (h : i + k < y.length) : footAt (y.drop i) k = footAt y (i + k) := by
  unfold footAt
  rw [get_drop h, List.length_drop]
  by_cases h1 : i + k + 1 < y.length
  · rw [get_drop (by omega), show i + (k + 1) = i + k + 1 by omega, show decide (k + 1 = y.length - i) = false from decide_eq_false (by omega), show decide (i + k + 1 = y.length) = false from decide_eq_false (by omega)]
  · rw [show decide (k + 1 = y.length - i) = true from decide_eq_true (by omega), show decide (i + k + 1 = y.length) = true from decide_eq_true (by omega), Bool.true_or, Bool.true_or]
theorem footF_drop {y : List Int} {i : Nat} (hi : i ≤ y.length) : ∀ {k : Nat}, footF (y.drop i) k = footF y (i + k) - i := by
  intro k
  generalize hd : y.length - (i + k) = d
  induction d using Nat.strongRecOn generalizing k with
  | _ d ih =>
    by_cases hk : i + k < y.length
    · have hk2 : k < (y.drop i).length := by rw [List.length_drop]; omega
      cases hf : footAt y (i + k) with
      | true => rw [footF_hit hk hf, footF_hit hk2 (by rw [footAt_drop hk]; exact hf)]; omega
      | false =>
        rw [footF_step hk hf, footF_step hk2 (by rw [footAt_drop hk]; exact hf)]
        exact ih (y.length - (i + (k + 1))) (by omega) rfl
    · rw [footF_end hk, footF_end (by rw [List.length_drop]; omega), List.length_drop]
theorem begin_two {y : List Int} (hne : y ≠ []) (hf : footAt y 0 = false) : (readF y).why = 3 ∧ (readF y).size = 0 := by
  have hp : 0 < y.length := List.length_pos_iff.2 hne
  have hb0 : beginL[0]! = 56 := rfl
  have hb1 : beginL[1]! = 61 := rfl
  have key : preF y 10 0 < 10 ∧ preF y 10 0 ≠ y.length := by
    unfold footAt at hf
    by_cases h0 : y[0]! = 56
    · rw [show decide (y[0]! = 56) = true from decide_eq_true h0, Bool.true_and] at hf
      simp only [Bool.or_eq_false_iff, decide_eq_false_iff_not, Nat.zero_add] at hf
      have e : preF y 10 0 = 1 := by
        unfold preF
        rw [if_pos ⟨hp, by rw [hb0]; exact h0⟩]
        unfold preF
        rw [if_neg (fun h => hf.2 (by rw [← hb1]; exact h.2))]
      rw [e]
      omega
    · have e : preF y 10 0 = 0 := by
        unfold preF
        rw [if_neg (fun h => h0 (by rw [← hb0]; exact h.2))]
      rw [e]
      omega
  have hh : headF y = .bad (preF y 10 0 : Nat) 3 := by
    unfold headF
    rw [if_pos key.1, if_neg key.2]
  rw [readF_bad hh]
  exact ⟨rfl, rfl⟩
theorem out_skip : ∀ (y : List Int), outF y = outF (y.drop (footF y 0)) := by
  intro y
  by_cases hne : y = []
  · subst hne
    rw [List.drop_nil]
  · have hp : 0 < y.length := List.length_pos_iff.2 hne
    cases hf : footAt y 0 with
    | true => rw [footF_hit hp hf, List.drop_zero]
    | false =>
      obtain ⟨h1, h2⟩ := begin_two hne hf
      rw [footF_step hp hf, outF_step (by rw [h1]; decide), nextF_foot (by rw [h1]; decide) (fun h => h h2)]
      simp
/-- In pieces the same lines. -/
theorem out_app : ∀ (h x : List Int), outF (h ++ x) = ((outF h).1 ++ (outF ((outF h).2 ++ x)).1, (outF ((outF h).2 ++ x)).2) := by
  intro h
  generalize hd : h.length = d
  induction d using Nat.strongRecOn generalizing h with
  | _ d ih =>
    intro x
    by_cases hs : (readF h).why = 20
    · rw [outF_short hs, List.nil_append]
    · have hra := readF_app (x := x) hs
      have hsa : ¬ (readF (h ++ x)).why = 20 := by rw [hra]; exact hs
      have hlt := nextF_lt hs
      have hih := ih (nextF h).held.length (by omega) (nextF h).held rfl x
      have hsl := readF_size_le h
      have key : (nextF (h ++ x)).ok = (nextF h).ok ∧ (nextF (h ++ x)).kind = (nextF h).kind ∧ (nextF (h ++ x)).tags = (nextF h).tags ∧ outF (nextF (h ++ x)).held = outF ((nextF h).held ++ x) := by
        by_cases h2 : (readF h).size ≠ 0
        · rw [nextF_line hs h2, nextF_line hsa (by rw [hra]; exact h2), hra]
          refine ⟨rfl, rfl, rfl, ?_⟩
          show outF ((h ++ x).drop (readF h).size) = outF (h.drop (readF h).size ++ x)
          rw [List.drop_append_of_le_length hsl]
        · rw [nextF_foot hs h2, nextF_foot hsa (by rw [hra]; exact h2)]
          refine ⟨rfl, rfl, rfl, ?_⟩
          show outF ((h ++ x).drop (footF (h ++ x) 1)) = outF (h.drop (footF h 1) ++ x)
          have hne : h ≠ [] := by rintro rfl; exact hs readF_nil
          have hp : 0 < h.length := List.length_pos_iff.2 hne
          have hfl := footF_le h 1
          have hfg := footF_ge (h := h) (i := 1) (by omega)
          have hla : (h ++ x).length = h.length + x.length := List.length_append
          have e1 : footF (h ++ x) 1 = footF (h ++ x) (footF h 1) := footF_skip hfg (by omega) (fun k h3 h4 => footAt_miss (by omega) (footF_before k h3 h4))
          have hge := footF_ge (h := h ++ x) (i := footF h 1) (by omega)
          rw [← List.drop_append_of_le_length hfl, out_skip ((h ++ x).drop (footF h 1)), footF_drop (by omega), List.drop_drop, Nat.add_zero, e1]
          congr 2
          omega
      obtain ⟨k1, k2, k3, k4⟩ := key
      rw [outF_step hsa, outF_step hs, k1, k2, k3, k4, hih, List.append_assoc]
end Go.Rx
