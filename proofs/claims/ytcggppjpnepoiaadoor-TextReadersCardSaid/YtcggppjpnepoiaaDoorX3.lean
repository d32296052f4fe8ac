/- A reader's Next, by the program; Feed and Next by the document. -/
import Derived.Test.YtcggppjpnepoiaaDoorX2
namespace Go.Rx
open Go Go.RowKit Go.Lib Go.Proofs.YtcggppjpnepoiaaDoor
set_option linter.unusedVariables false
set_option linter.unusedSimpArgs false
theorem readF_nil : (readF []).why = 20 := by
  have h : headF [] = .bad 0 20 := by
    unfold headF
    simp [preF]
  rw [readF_bad h]
  rfl
theorem readF_size_le (l : List Int) : (readF l).size ≤ l.length := by
  unfold readF
  split
  · exact Nat.zero_le _
  · split
    · exact Nat.zero_le _
    · split
      · exact Nat.zero_le _
      · split
        · exact Nat.zero_le _
        · split
          · exact Nat.zero_le _
          · rename_i f k _ _ h2 _ _
            cases partsF l f (f + k) f ⟨#[]⟩ [] with
            | bad p e => show f + k + 7 ≤ l.length; omega
            | ok kind xs => show f + k + 7 ≤ l.length; omega
theorem readF_ok_size {l : List Int} (h : (readF l).why = 0) : (readF l).size ≠ 0 := by
  rcases readF_cases l with ⟨a, c, h1, h2⟩ | ⟨f, k, _, h1⟩
  · rw [h1] at h; exact absurd h h2
  · rw [h1]
    cases partsF l f (f + k) f ⟨#[]⟩ [] with
    | bad p e => show f + k + 7 ≠ 0; omega
    | ok kind xs => show f + k + 7 ≠ 0; omega
theorem nextF_short {h : List Int} (h1 : (readF h).why = 20) : nextF h = ⟨h, ⟨#[]⟩, [], false, 0⟩ := if_pos h1
theorem nextF_line {h : List Int} (h1 : ¬ (readF h).why = 20) (h2 : (readF h).size ≠ 0) : nextF h = ⟨h.drop (readF h).size, (readF h).kind, (readF h).tags, decide ((readF h).why = 0), (readF h).why⟩ := by
  unfold nextF
  rw [if_neg h1, if_pos h2]
theorem nextF_foot {h : List Int} (h1 : ¬ (readF h).why = 20) (h2 : ¬ (readF h).size ≠ 0) : nextF h = ⟨h.drop (footF h 1), ⟨#[]⟩, [], false, (readF h).why⟩ := by
  unfold nextF
  rw [if_neg h1, if_neg h2]
theorem nextF_len (h : List Int) : (nextF h).held.length ≤ h.length := by
  unfold nextF
  split
  · exact Nat.le_refl _
  · split
    · simp
    · simp
theorem nextF_bytes {h : List Int} (hB : isBytes h) : isBytes (nextF h).held := by
  unfold nextF
  split
  · exact hB
  · split
    · exact isBytes_drop hB
    · exact isBytes_drop hB
theorem nextF_tags (h : List Int) (hh : h.length ≤ 65536) : (nextF h).tags.length ≤ 64 := by
  have h1 := (readF_tags (l := h) (N := 65536) hh).2
  unfold nextF
  split
  · exact Nat.zero_le _
  · split
    · exact h1
    · exact Nat.zero_le _
theorem feedF_len {h b : List Int} (hh : h.length ≤ 65536) : (feedF h b).1.length ≤ 65536 := by
  unfold feedF
  split
  · exact hh
  · simp; omega
theorem feedF_bytes {h b : List Int} (hB : isBytes h) (hb : isBytes b) : isBytes (feedF h b).1 := by
  unfold feedF
  split
  · exact hB
  · intro x hx
    rcases List.mem_append.1 hx with h | h
    · exact hB x h
    · exact hb x h
set_option maxHeartbeats 2000000 in
set_option maxRecDepth 100000 in
theorem readerNext {ws w : World} {b c : Nat} {A : Option Addr} {h : List Int} (hs : Upd ws w [] [readerC b (.slice A h.length c), bytesC (.slice A h.length c) h]) (hL : Laid2 ws) (hB : isBytes h) (hh : h.length ≤ 65536) :
    Spec Go.Proofs.Tryd.prog 29 #[.pointer (some ⟨b, 0, none⟩)] w [readerC b (.slice A h.length c), bytesC (.slice A h.length c) h] (fun u H' => ∃ A' c' A2 c2, u = .tuple #[.string (nextF h).kind, .slice A' (nextF h).tags.length c', .bool (nextF h).ok, .int .i64 (nextF h).why] ∧
      H' = [tagsC (.slice A' (nextF h).tags.length c') (nextF h).tags, readerC b (.slice A2 (nextF h).held.length c2), bytesC (.slice A2 (nextF h).held.length c2) (nextF h).held]) := by
  have ho := hs.own
  have hL2 : ∀ {w' : World} {H : List Chunk}, Upd w w' [readerC b (.slice A h.length c), bytesC (.slice A h.length c) h] H → Laid2 w' := fun hu => hL.up (Upd.step (F := []) hs hu)
  have hsz := readF_size_le h
  have hfl := footF_le h 1
  have htl := (readF_tags (l := h) (N := 65536) hh).2
  refine Spec.enter (fn := Go.Proofs.Tryd.f29) (n := 38) [.pointer (some ⟨b, 0, none⟩)] Go.Proofs.Tryd.func29 (by kernel_rfl) rfl Go.Proofs.Tryd.ntmps29 Go.Proofs.Tryd.results29 rfl ho ?_
  refine JC.re (fun w h => h.nilOwn 30 2) ?_
  refine JC.rs ?_
  refine Seq.p rfl Ev.assign ?_
  refine Seq.p rfl Ev.assign ?_
  refine Seq.p rfl Ev.assign ?_
  refine Seq.p rfl Ev.assign ?_
  refine Seq.nil ?_
  refine JC.rs ?_
  refine Seq.p rfl Ev.move ?_
  refine Seq.p rfl Ev.nilP ?_
  refine Seq.p rfl (Ev.faB fd.text_Reader_0) ?_
  refine Seq.p rfl (Ev.ldB sc.sl_uint8) ?_
  refine Seq.call rfl (fun w' hw => textRead (RAt.up (RAt.own (enc := byteEnc) (xs := h)) hw) hB (by omega) (hL2 hw).laid) (F := _) (by exact List.Perm.refl _) ?_
  rintro _ _ ⟨A1, c1, rfl, rfl⟩
  simp only [lineA, List.cons_append, List.nil_append]
  refine Seq.p rfl Ev.move ?_
  refine Seq.p rfl Ev.extract ?_
  refine Seq.p rfl Ev.extract ?_
  refine Seq.alloc (cs := [_, _, _, _]) (hz := z.text_line) (k := ?_); intro b6
  refine Seq.storeN [_, _, _, _] sz.text_line (k := ?_)
  refine Seq.p rfl Ev.assign ?_
  refine Seq.nil ?_
  refine JC.seq ?_
  refine JC.blk ?_
  refine JC.rs ?_
  refine Seq.p rfl Ev.move ?_
  refine Seq.p rfl Ev.eq ?_
  refine Seq.p rfl Ev.assign ?_
  refine Seq.nil ?_
  first | refine JC.c (ht := fun c20 => ?_) (hf := fun c20 => ?_) | refine JC.cb (ht := fun c20 => ?_) (hf := fun c20 => ?_)
  · -- then_t20
    refine JC.rs ?_
    refine Seq.p rfl Ev.assign ?_
    refine Seq.p rfl Ev.assign ?_
    refine Seq.p rfl Ev.assign ?_
    refine Seq.p rfl Ev.assign ?_
    refine Seq.nil ?_
    refine JC.ret ?_
    -- return 0
    show retQ _ _ _ _ _ _ _ _
    refine retI (RVs.t (hs := (RVs.t (hs := (RVs.t (hs := (RVs.t (hs := RVs.nil)))))))) (H' := [nilC, readerC b (.slice A h.length c), bytesC (.slice A h.length c) h]) (by repeat (first | exact Part.nil _ | refine Part.at (by repeat (first | exact At.z | apply At.s)) ?_)) ?_
    rw [nextF_short c20]
    exact ⟨none, 0, A, c, rfl, rfl⟩
  · -- else_t20
    refine JC.rs ?_
    refine Seq.p rfl (Ev.faB fd.text_line_2) ?_
    refine Seq.p rfl (Ev.ldB sc.int) ?_
    refine Seq.p rfl Ev.gt ?_
    refine Seq.p rfl Ev.assign ?_
    refine Seq.nil ?_
    first | refine JC.c (ht := fun c23 => ?_) (hf := fun c23 => ?_) | refine JC.cb (ht := fun c23 => ?_) (hf := fun c23 => ?_)
    · -- then_t23
      have hz : (readF h).size ≠ 0 := by omega
      refine JC.reg ?_
      refine Seq.p rfl Ev.move ?_
      refine Seq.p rfl (Ev.faB fd.text_line_2) ?_
      refine Seq.p rfl (Ev.ldB sc.int) ?_
      refine Seq.call rfl (fun w' hw => readerDrop (n := (readF h).size) (hw.part (by repeat (first | exact Part.nil _ | refine Part.at (by repeat (first | exact At.z | apply At.s)) ?_))).own hh hsz) (Gs := [readerC b (.slice A h.length c), bytesC (.slice A h.length c) h]) (F := [_, _, _]) (by exact List.perm_append_comm (l₁ := [_, _]) (l₂ := [_, _, _])) ?_
      rintro _ _ ⟨A3, c3, rfl⟩
      simp only [List.cons_append, List.nil_append]
      refine Seq.nil ?_
      refine JC.seq ?_
      refine JC.rs ?_
      refine Seq.p rfl Ev.move ?_
      refine Seq.p rfl Ev.ne ?_
      refine Seq.nil ?_
      first | refine JC.c (ht := fun c32 => ?_) (hf := fun c32 => ?_) | refine JC.cb (ht := fun c32 => ?_) (hf := fun c32 => ?_)
      · -- then_t32
        refine JC.rs ?_
        refine Seq.p rfl Ev.move ?_
        refine Seq.p rfl Ev.assign ?_
        refine Seq.p rfl Ev.assign ?_
        refine Seq.p rfl Ev.assign ?_
        refine Seq.p rfl Ev.assign ?_
        refine Seq.nil ?_
        refine JC.ret ?_
        -- return 1
        show retQ _ _ _ _ _ _ _ _
        refine retI (RVs.t (hs := (RVs.t (hs := (RVs.t (hs := (RVs.t (hs := RVs.nil)))))))) (H' := [nilC, readerC b (.slice A3 (h.drop (readF h).size).length c3), bytesC (.slice A3 (h.drop (readF h).size).length c3) (h.drop (readF h).size)]) (by repeat (first | exact Part.nil _ | refine Part.at (by repeat (first | exact At.z | apply At.s)) ?_)) ?_
        have h1 := readF_bad_form c32
        rw [nextF_line c20 hz, h1.1, h1.2, decide_eq_false c32]
        exact ⟨none, 0, A3, c3, rfl, rfl⟩
      · -- else_t32
        refine JC.skip ?_
        refine JC.qs mixed (by kernel_rfl) ?_
        refine Qui.p rfl (Ev.faB fd.text_line_0) ?_
        refine Qui.p rfl (Ev.ldB sc.string) ?_
        refine Qui.p rfl (Ev.faB fd.text_line_1) ?_
        refine Qui.p rfl (Ev.ldB sc.sl_api_Tag) ?_
        refine Qui.p rfl Ev.assign ?_
        refine Qui.p rfl Ev.assign ?_
        refine Qui.p rfl Ev.assign ?_
        refine Qui.p rfl Ev.assign ?_
        refine Qui.nil ?_
        refine JC.ret ?_
        -- return 2
        show retQ _ _ _ _ _ _ _ _
        refine retI (RVs.t (hs := (RVs.t (hs := (RVs.t (hs := (RVs.t (hs := RVs.nil)))))))) (H' := [tagsC (.slice A1 (readF h).tags.length c1) (readF h).tags, readerC b (.slice A3 (h.drop (readF h).size).length c3), bytesC (.slice A3 (h.drop (readF h).size).length c3) (h.drop (readF h).size)]) (by repeat (first | exact Part.nil _ | refine Part.at (by repeat (first | exact At.z | apply At.s)) ?_)) ?_
        have h1 := Classical.not_not.1 c32
        rw [nextF_line c20 hz, decide_eq_true h1, h1]
        exact ⟨A1, c1, A3, c3, rfl, rfl⟩
    · -- else_t23
      have hz : ¬ (readF h).size ≠ 0 := by omega
      have hne : h ≠ [] := by rintro rfl; exact c20 readF_nil
      refine JC.reg ?_
      refine Seq.p rfl Ev.move ?_
      refine Seq.p rfl Ev.move ?_
      refine Seq.callP rfl (fun w hw => readerFoot (box_cell hw (by repeat (first | exact At.z | apply At.s)) rfl) (RAt.up (RAt.own (enc := byteEnc) (xs := h)) hw) hB hne hh (hL2 hw).max) ?_
      refine Seq.call rfl (fun w' hw => readerDrop (n := footF h 1) (hw.part (by repeat (first | exact Part.nil _ | refine Part.at (by repeat (first | exact At.z | apply At.s)) ?_))).own hh hfl) (Gs := [readerC b (.slice A h.length c), bytesC (.slice A h.length c) h]) (F := [_, _, _]) (by exact List.perm_append_comm (l₁ := [_, _]) (l₂ := [_, _, _])) ?_
      rintro _ _ ⟨A3, c3, rfl⟩
      simp only [List.cons_append, List.nil_append]
      refine Seq.nil ?_
      refine JC.seq ?_
      refine JC.rs ?_
      refine Seq.p rfl Ev.move ?_
      refine Seq.p rfl Ev.ne ?_
      refine Seq.nil ?_
      first | refine JC.c (ht := fun c32 => ?_) (hf := fun c32 => ?_) | refine JC.cb (ht := fun c32 => ?_) (hf := fun c32 => ?_)
      · -- then_t32
        refine JC.rs ?_
        refine Seq.p rfl Ev.move ?_
        refine Seq.p rfl Ev.assign ?_
        refine Seq.p rfl Ev.assign ?_
        refine Seq.p rfl Ev.assign ?_
        refine Seq.p rfl Ev.assign ?_
        refine Seq.nil ?_
        refine JC.ret ?_
        -- return 3
        show retQ _ _ _ _ _ _ _ _
        refine retI (RVs.t (hs := (RVs.t (hs := (RVs.t (hs := (RVs.t (hs := RVs.nil)))))))) (H' := [nilC, readerC b (.slice A3 (h.drop (footF h 1)).length c3), bytesC (.slice A3 (h.drop (footF h 1)).length c3) (h.drop (footF h 1))]) (by repeat (first | exact Part.nil _ | refine Part.at (by repeat (first | exact At.z | apply At.s)) ?_)) ?_
        rw [nextF_foot c20 hz]
        exact ⟨none, 0, A3, c3, rfl, rfl⟩
      · -- else_t32
        refine JC.skip ?_
        refine JC.qs mixed (by kernel_rfl) ?_
        refine Qui.p rfl (Ev.faB fd.text_line_0) ?_
        refine Qui.p rfl (Ev.ldB sc.string) ?_
        refine Qui.p rfl (Ev.faB fd.text_line_1) ?_
        refine Qui.p rfl (Ev.ldB sc.sl_api_Tag) ?_
        refine Qui.p rfl Ev.assign ?_
        refine Qui.p rfl Ev.assign ?_
        refine Qui.p rfl Ev.assign ?_
        refine Qui.p rfl Ev.assign ?_
        refine Qui.nil ?_
        refine JC.ret ?_
        -- return 4
        show retQ _ _ _ _ _ _ _ _
        exfalso
        exact hz (readF_ok_size (Classical.not_not.1 c32))
        skip
set_option maxHeartbeats 1000000 in
set_option maxRecDepth 100000 in
theorem refFeed {w : World} {c : Nat} {A : Option Addr} {vb : Value} {h l : List Int} (hr : RSl byteEnc 1 w [bytesC (.slice A h.length c) h] vb l) (ho : Own w [bytesC (.slice A h.length c) h]) (hh : h.length ≤ 65536) (hl : l.length ≤ 140737488351232) :
    Spec Go.Proofs.Tryd.prog 28 #[.slice A h.length c, vb] w [bytesC (.slice A h.length c) h] (fun u H' => ∃ A' c', u = .tuple #[.slice A' (feedF h l).1.length c', .int .i64 (feedF h l).2] ∧ H' = [bytesC (.slice A' (feedF h l).1.length c') (feedF h l).1]) := by
  refine Spec.enter (fn := Go.Proofs.Tryd.f28) (n := 18) [.slice A h.length c, vb] Go.Proofs.Tryd.func28 (by kernel_rfl) rfl Go.Proofs.Tryd.ntmps28 Go.Proofs.Tryd.results28 rfl ho ?_
  refine JC.rs ?_
  refine Seq.p rfl Ev.assign ?_
  refine Seq.p rfl Ev.assign ?_
  refine Seq.nil ?_
  refine JC.seq ?_
  refine JC.rs ?_
  refine Seq.p rfl Ev.move ?_
  refine Seq.p rfl (Ev.lenSl sl.sl_uint8 (hr := RAt.own (enc := byteEnc) (xs := h))) ?_
  refine Seq.p rfl Ev.move ?_
  refine Seq.p rfl (Ev.lenSl sl.sl_uint8 (hr := hr.r)) ?_
  refine Seq.p rfl (Ev.addN (m := h.length) (c := l.length)) ?_
  refine Seq.p rfl Ev.gt ?_
  refine Seq.nil ?_
  first | refine JC.c (ht := fun c11 => ?_) (hf := fun c11 => ?_) | refine JC.cb (ht := fun c11 => ?_) (hf := fun c11 => ?_)
  · -- then_t11
    refine JC.rs ?_
    refine Seq.p rfl Ev.move ?_
    refine Seq.p rfl Ev.assign ?_
    refine Seq.p rfl Ev.assign ?_
    refine Seq.nil ?_
    refine JC.ret ?_
    -- return 0
    show retQ _ _ _ _ _ _ _ _
    refine ret2 (H' := [bytesC (.slice A h.length c) h]) (hp := Part.refl _) (hpost := ?_)
    have e : feedF h l = (h, 2) := if_pos (by omega)
    rw [e]
    exact ⟨A, c, rfl, rfl⟩
  · -- else_t11
    refine JC.skip ?_
    refine JC.rs ?_
    refine Seq.buildSl (cs := []) (hsl := sl.sl_uint8) (hz := z.uint8) (hcs := rfl) (k := ?_); intro b13
    refine Seq.re (fun w h => Upd.boxOwn h (n := 0) (size := 1) At.z rfl (by omega)) ?_
    refine Seq.p rfl Ev.move ?_
    refine Seq.append (hsl := sl.sl_uint8) (he := el.uint8) (hH := At.z) (hsrc := fun w' hw => Src.rsl sl.sl_uint8 (RAt.up (RAt.own (enc := byteEnc) (xs := h)) hw) (by omega) byteOne) (k := ?_); intro A15 c15
    rw [Nat.zero_add h.length, List.nil_append]
    refine Seq.p rfl Ev.move ?_
    refine Seq.append (hsl := sl.sl_uint8) (he := el.uint8) (hH := At.z) (hsrc := fun w' hw => Src.rsl sl.sl_uint8 (hr.up hw) (by omega) byteOne) (k := ?_); intro A17 c17
    refine Seq.p rfl Ev.assign ?_
    refine Seq.p rfl Ev.assign ?_
    refine Seq.nil ?_
    rw [← bytesC_append (.slice A17 (h.length + l.length) c17) h l _ rfl]
    refine JC.ret ?_
    -- return 1
    show retQ _ _ _ _ _ _ _ _
    refine ret2 (H' := [bytesC (.slice A17 (h.length + l.length) c17) (h ++ l)]) (hp := Part.here (Part.nil _)) (hpost := ?_)
    have e : feedF h l = (h ++ l, 0) := if_neg (by omega)
    rw [e]
    exact ⟨A17, c17, by simp only [List.length_append], by simp only [List.length_append]⟩
set_option maxHeartbeats 2000000 in
set_option maxRecDepth 100000 in
theorem refNext {w : World} {c : Nat} {A : Option Addr} {h : List Int} (ho : Own w [bytesC (.slice A h.length c) h]) (hB : isBytes h) (hh : h.length ≤ 65536) :
    Spec Go.Proofs.Tryd.prog 30 #[.slice A h.length c] w [bytesC (.slice A h.length c) h] (fun u H' => ∃ A' c' A2 c2, u = .tuple #[.slice A2 (nextF h).held.length c2, .string (nextF h).kind, .slice A' (nextF h).tags.length c', .bool (nextF h).ok, .int .i64 (nextF h).why] ∧
      H' = [tagsC (.slice A' (nextF h).tags.length c') (nextF h).tags, bytesC (.slice A2 (nextF h).held.length c2) (nextF h).held]) := by
  have hsz := readF_size_le h
  have hfl := footF_le h 1
  have htl := (readF_tags (l := h) (N := 65536) hh).2
  refine Spec.enter (fn := Go.Proofs.Tryd.f30) (n := 63) [.slice A h.length c] Go.Proofs.Tryd.func30 (by kernel_rfl) rfl Go.Proofs.Tryd.ntmps30 Go.Proofs.Tryd.results30 rfl ho ?_
  refine JC.re (fun w h => h.nilOwn 30 2) ?_
  refine JC.rs ?_
  refine Seq.p rfl Ev.assign ?_
  refine Seq.p rfl Ev.assign ?_
  refine Seq.p rfl Ev.assign ?_
  refine Seq.p rfl Ev.assign ?_
  refine Seq.p rfl Ev.assign ?_
  refine Seq.nil ?_
  refine JC.rs ?_
  refine Seq.p rfl Ev.move ?_
  refine Seq.call rfl (fun w' hw => refRead (RAt.up (RAt.own (enc := byteEnc) (xs := h)) hw) hB (by omega)) (F := _) (by exact List.Perm.refl _) ?_
  rintro _ _ ⟨A1, c1, rfl, rfl⟩
  simp only [ansV, List.cons_append, List.nil_append]
  refine Seq.alloc (cs := [_, _, _, _, _, _]) (hz := z.bourseref03_Answer) (k := ?_); intro b7
  refine Seq.storeN [_, _, _, _, _, _] sz.bourseref03_Answer (k := ?_)
  refine Seq.nil ?_
  refine JC.seq ?_
  refine JC.rs ?_
  refine Seq.p rfl (Ev.faB fd.bourseref03_Answer_3) ?_
  refine Seq.p rfl (Ev.ldB sc.api_Errno) ?_
  refine Seq.p rfl Ev.eq ?_
  refine Seq.nil ?_
  first | refine JC.c (ht := fun c13 => ?_) (hf := fun c13 => ?_) | refine JC.cb (ht := fun c13 => ?_) (hf := fun c13 => ?_)
  · -- then_t13
    refine JC.rs ?_
    refine Seq.p rfl Ev.move ?_
    refine Seq.p rfl Ev.assign ?_
    refine Seq.p rfl Ev.assign ?_
    refine Seq.p rfl Ev.assign ?_
    refine Seq.p rfl Ev.assign ?_
    refine Seq.p rfl Ev.assign ?_
    refine Seq.nil ?_
    refine JC.ret ?_
    -- return 0
    show retQ _ _ _ _ _ _ _ _
    refine retI (RVs.t (hs := (RVs.t (hs := (RVs.t (hs := (RVs.t (hs := (RVs.t (hs := RVs.nil)))))))))) (H' := [nilC, bytesC (.slice A h.length c) h]) (by repeat (first | exact Part.nil _ | refine Part.at (by repeat (first | exact At.z | apply At.s)) ?_)) ?_
    rw [nextF_short c13]
    exact ⟨none, 0, A, c, rfl, rfl⟩
  · -- else_t13
    refine JC.skip ?_
    refine JC.seq ?_
    refine JC.rs ?_
    refine Seq.p rfl (Ev.faB fd.bourseref03_Answer_4) ?_
    refine Seq.p rfl (Ev.ldB sc.bool) ?_
    refine Seq.nil ?_
    first | refine JC.c (ht := fun c16 => ?_) (hf := fun c16 => ?_) | refine JC.cb (ht := fun c16 => ?_) (hf := fun c16 => ?_)
    · -- then_t16
      obtain ⟨A3, c3, h3⟩ := subForm (A := A) (c := c) hsz
      refine JC.qs mixed (by kernel_rfl) ?_
      refine Qui.p rfl Ev.move ?_
      refine Qui.p rfl (Ev.faB fd.bourseref03_Answer_5) ?_
      refine Qui.p rfl (Ev.ldB sc.int) ?_
      refine Qui.p rfl (Ev.cut sl.sl_uint8 (hr := RAt.own (enc := byteEnc) (xs := h)) (l := (readF h).size) (h := h.length) (hlo := ⟨_, (by repeat (first | exact Look.here | apply Look.there (hne := rfl) | exact Look.const | apply Look.mix rfl | exact Look.arg0 | apply Look.args | exact Look.func))⟩) (hhi := rfl)) ?_
      rw [h3]
      refine Qui.p rfl (Ev.faB fd.bourseref03_Answer_0) ?_
      refine Qui.p rfl (Ev.ldB sc.string) ?_
      refine Qui.p rfl (Ev.faB fd.bourseref03_Answer_1) ?_
      refine Qui.p rfl (Ev.ldB sc.sl_api_Tag) ?_
      refine Qui.p rfl (Ev.faB fd.bourseref03_Answer_3) ?_
      refine Qui.p rfl (Ev.ldB sc.api_Errno) ?_
      refine Qui.p rfl Ev.eq ?_
      refine Qui.p rfl (Ev.faB fd.bourseref03_Answer_3) ?_
      refine Qui.p rfl (Ev.ldB sc.api_Errno) ?_
      refine Qui.p rfl Ev.assign ?_
      refine Qui.p rfl Ev.assign ?_
      refine Qui.p rfl Ev.assign ?_
      refine Qui.p rfl Ev.assign ?_
      refine Qui.p rfl Ev.assign ?_
      refine Qui.nil ?_
      refine JC.re (fun w hw => cutTo hw (At.s (At.s (At.s At.z))) hsz) ?_
      rw [h3]
      refine JC.ret ?_
      -- return 1
      show retQ _ _ _ _ _ _ _ _
      refine retI (RVs.t (hs := (RVs.t (hs := (RVs.t (hs := (RVs.t (hs := (RVs.t (hs := RVs.nil)))))))))) (H' := [tagsC (.slice A1 (readF h).tags.length c1) (readF h).tags, bytesC (.slice A3 (h.drop (readF h).size).length c3) (h.drop (readF h).size)]) (by repeat (first | exact Part.nil _ | refine Part.at (by repeat (first | exact At.z | apply At.s)) ?_)) ?_
      rw [nextF_line c13 c16]
      exact ⟨A1, c1, A3, c3, rfl, rfl⟩
    · -- else_t16
      have hne : h ≠ [] := by rintro rfl; exact c13 readF_nil
      have hlen : 0 < h.length := List.length_pos_iff.2 hne
      have hnf := nextF_foot c13 c16
      refine JC.skip ?_
      refine JC.seq ?_
      refine JC.rs ?_
      refine Seq.p rfl Ev.assign ?_
      refine Seq.nil ?_
      refine JC.blk ?_
      refine JC.loop (α := Nat) (I := fun i e1 H1 => Has [2, 3, 4, 5, 6, 8, 30, 31, 32, 33, 34, 35, 36, 37, 38, 39, 40, 41, 42, 43, 44, 45, 46, 47, 48, 49, 50, 51, 52, 53, 54, 55, 56, 57, 58, 59, 60] [(8, .int .i64 (i : Int))] _ e1 ∧ H1 = _ ∧ 1 ≤ i ∧ i ≤ h.length ∧ footF h i = footF h 1) (μ := fun i => h.length - i) 1 ⟨Has.mk Off.refl (allLook_cons (by repeat (first | exact Look.here | apply Look.there (hne := rfl) | exact Look.const | apply Look.mix rfl | exact Look.arg0 | apply Look.args | exact Look.func)) allLook_nil), rfl, by omega, by omega, rfl⟩ ?_
      rintro i _ _ ⟨⟨u, rfl⟩, rfl, hi1, hi, hf⟩; dsimp only [setL]
      refine JC.seq ?_
      refine JC.rs ?_
      refine Seq.p rfl Ev.move ?_
      refine Seq.p rfl Ev.move ?_
      refine Seq.p rfl (Ev.lenSl sl.sl_uint8 (hr := RAt.own (enc := byteEnc) (xs := h))) ?_
      refine Seq.p rfl Ev.lt ?_
      refine Seq.nil ?_
      first | refine JC.c (ht := fun c33 => ?_) (hf := fun c33 => ?_) | refine JC.cb (ht := fun c33 => ?_) (hf := fun c33 => ?_)
      · -- then_t33
        have hi2 : i < h.length := by omega
        refine JC.skip ?_
        refine JC.seq ?_
        refine JC.blk ?_
        refine JC.rs ?_
        refine Seq.p rfl Ev.move ?_
        refine Seq.p rfl Ev.move ?_
        refine Seq.p rfl (Ev.iaN sl.sl_uint8 (hr := RAt.own (enc := byteEnc) (xs := h))) ?_
        refine Seq.p rfl (Ev.ldE1 sc.uint8 (hr := RAt.own (enc := byteEnc) (xs := h))) ?_
        refine Seq.p rfl Ev.eq ?_
        refine Seq.p rfl Ev.move ?_
        refine Seq.andG (D := [41, 42, 43, 44, 45, 46, 47, 48, 49, 50, 51, 52, 53, 54, 55]) (d := 41) (t := 55) (k := 14) (hn := fun h41 => ?_) (hx := ?_)
        · repeat (first | refine Seq.gn rfl rfl rfl rfl ?_ | refine Seq.gu rfl rfl rfl ?_)
          refine Seq.p rfl Ev.pickF ?_
          exact Seq.nil ⟨rfl, (by repeat (first | with_reducible exact Off.refl | refine Off.upd ?_ rfl | exact Off.mix | refine Off.mix2 ?_ rfl)), Look.here⟩
        apply Exists.intro
        refine ⟨fun h41 => ?_, fun u55 => ?_⟩
        · try simp only [decide_eq_true_eq, decide_eq_false_iff_not, Bool.and_eq_true, Bool.or_eq_true, Bool.not_eq_true', Bool.not_eq_false', Bool.or_eq_false_iff, Bool.and_eq_false_imp] at h41
          refine Seq.gy rfl rfl rfl ?_
          refine Seq.p rfl Ev.move ?_
          refine Seq.gy rfl rfl rfl ?_
          refine Seq.p rfl (Ev.addN (m := i) (c := 1)) ?_
          refine Seq.gy rfl rfl rfl ?_
          refine Seq.p rfl Ev.move ?_
          refine Seq.gy rfl rfl rfl ?_
          refine Seq.p rfl (Ev.lenSl sl.sl_uint8 (hr := RAt.own (enc := byteEnc) (xs := h))) ?_
          refine Seq.gy rfl rfl rfl ?_
          refine Seq.p rfl Ev.eq ?_
          refine Seq.gy rfl rfl rfl ?_
          refine Seq.p rfl Ev.move ?_
          refine Seq.orG (D := [47, 48, 49, 50, 51, 52, 53, 54]) (d := 47) (t := 54) (k := 7) (hn := fun h47 => ?_) (hx := ?_)
          · repeat (first | refine Seq.gn rfl rfl rfl rfl ?_ | refine Seq.gu rfl rfl rfl ?_)
            refine Seq.gy rfl rfl rfl ?_
            refine Seq.p rfl Ev.pickT ?_
            exact Seq.nil ⟨rfl, (by repeat (first | with_reducible exact Off.refl | refine Off.upd ?_ rfl | exact Off.mix | refine Off.mix2 ?_ rfl)), Look.here⟩
          apply Exists.intro
          refine ⟨fun h47 => ?_, fun u54 => ?_⟩
          · try simp only [decide_eq_true_eq, decide_eq_false_iff_not, Bool.and_eq_true, Bool.or_eq_true, Bool.not_eq_true', Bool.not_eq_false', Bool.or_eq_false_iff, Bool.and_eq_false_imp] at h47
            refine Seq.gy rfl rfl rfl ?_
            refine Seq.p rfl Ev.move ?_
            refine Seq.gy rfl rfl rfl ?_
            refine Seq.p rfl Ev.move ?_
            refine Seq.gy rfl rfl rfl ?_
            refine Seq.p rfl (Ev.addN (m := i) (c := 1)) ?_
            refine Seq.gy rfl rfl rfl ?_
            refine Seq.p rfl (Ev.iaN sl.sl_uint8 (hr := RAt.own (enc := byteEnc) (xs := h))) ?_
            refine Seq.gy rfl rfl rfl ?_
            refine Seq.p rfl (Ev.ldE1 sc.uint8 (hr := RAt.own (enc := byteEnc) (xs := h))) ?_
            refine Seq.gy rfl rfl rfl ?_
            refine Seq.p rfl Ev.eq ?_
            refine Seq.gy rfl rfl rfl ?_
            refine Seq.p rfl Ev.pickF ?_
            exact Seq.nil ⟨rfl, (by repeat (first | with_reducible exact Off.refl | refine Off.upd ?_ rfl | exact Off.mix | refine Off.mix2 ?_ rfl)), Look.here⟩
          refine Seq.p rfl Ev.pickT ?_
          exact Seq.nil ⟨rfl, (by repeat (first | with_reducible exact Off.refl | refine Off.upd ?_ rfl | exact Off.mix | refine Off.mix2 ?_ rfl)), Look.here⟩
        refine Seq.nil ?_
        first | refine JC.c (ht := fun c55 => ?_) (hf := fun c55 => ?_) | refine JC.cb (ht := fun c55 => ?_) (hf := fun c55 => ?_)
        · -- then_t55
          have hfo : footAt h i = true := by
            unfold footAt
            simp only [Bool.and_eq_true, Bool.or_eq_true, decide_eq_true_eq] at c55 ⊢
            refine ⟨c55.1, ?_⟩
            rcases c55.2 with h5 | h5
            · exact .inl (by omega)
            · exact .inr h5
          rw [footF_hit hi2 hfo] at hf
          obtain ⟨A4, c4, h4⟩ := subForm (A := A) (c := c) hi
          refine JC.qs mixed (by kernel_rfl) ?_
          refine Qui.p rfl Ev.move ?_
          refine Qui.p rfl Ev.move ?_
          refine Qui.p rfl (Ev.cut sl.sl_uint8 (hr := RAt.own (enc := byteEnc) (xs := h)) (l := i) (h := h.length) (hlo := ⟨_, (by repeat (first | exact Look.here | apply Look.there (hne := rfl) | exact Look.const | apply Look.mix rfl | exact Look.arg0 | apply Look.args | exact Look.func))⟩) (hhi := rfl)) ?_
          rw [h4]
          refine Qui.p rfl (Ev.faB fd.bourseref03_Answer_3) ?_
          refine Qui.p rfl (Ev.ldB sc.api_Errno) ?_
          refine Qui.p rfl Ev.assign ?_
          refine Qui.p rfl Ev.assign ?_
          refine Qui.p rfl Ev.assign ?_
          refine Qui.p rfl Ev.assign ?_
          refine Qui.p rfl Ev.assign ?_
          refine Qui.nil ?_
          refine JC.re (fun w hw => cutTo hw (At.s (At.s (At.s At.z))) hi) ?_
          rw [h4]
          refine JC.ret ?_
          -- return 2
          show retQ _ _ _ _ _ _ _ _
          refine retI (RVs.t (hs := (RVs.t (hs := (RVs.t (hs := (RVs.t (hs := (RVs.t (hs := RVs.nil)))))))))) (H' := [nilC, bytesC (.slice A4 (h.drop i).length c4) (h.drop i)]) (by repeat (first | exact Part.nil _ | refine Part.at (by repeat (first | exact At.z | apply At.s)) ?_)) ?_
          rw [hnf, ← hf]
          exact ⟨none, 0, A4, c4, rfl, rfl⟩
        · -- else_t55
          have hfo : footAt h i = false := by
            unfold footAt
            simp only [Bool.and_eq_false_iff, Bool.or_eq_false_iff, decide_eq_false_iff_not] at c55 ⊢
            rcases c55 with h5 | h5
            · exact .inl h5
            · exact .inr ⟨by omega, h5.2⟩
          rw [footF_step hi2 hfo] at hf
          refine JC.skip ?_
          refine JC.reg ?_
          refine Seq.p rfl Ev.move ?_
          refine Seq.p rfl (by first | exact Ev.inc | exact Ev.add) ?_
          refine Seq.p rfl Ev.assign ?_
          refine Seq.nil ?_
          exact ⟨i + 1, _, Part.refl _, ⟨Has.mk (by repeat (first | refine Off.upd ?_ rfl | exact Off.mix | refine Off.mix2 ?_ rfl | exact Off.refl)) (allLook_cons (by repeat (first | exact Look.here | apply Look.there (hne := rfl) | exact Look.const | apply Look.mix rfl | exact Look.arg0 | apply Look.args | exact Look.func)) allLook_nil), rfl, by omega, by omega, hf⟩, by omega⟩
      · -- else_t33
        obtain rfl : i = h.length := by omega
        rw [footF_end (by omega)] at hf
        refine JC.exit ?_ -- 0
        refine JC.qs mixed (by kernel_rfl) ?_
        refine Qui.p rfl (Ev.faB fd.bourseref03_Answer_3) ?_
        refine Qui.p rfl (Ev.ldB sc.api_Errno) ?_
        refine Qui.p rfl Ev.assign ?_
        refine Qui.p rfl Ev.assign ?_
        refine Qui.p rfl Ev.assign ?_
        refine Qui.p rfl Ev.assign ?_
        refine Qui.p rfl Ev.assign ?_
        refine Qui.nil ?_
        refine JC.re (fun w hw => Upd.toNil hw (At.s (At.s (At.s At.z))) 5 1) ?_
        refine JC.ret ?_
        -- return 3
        show retQ _ _ _ _ _ _ _ _
        refine retI (RVs.t (hs := (RVs.t (hs := (RVs.t (hs := (RVs.t (hs := (RVs.t (hs := RVs.nil)))))))))) (H' := [nilC, bytesC (.slice none 0 0) []]) (by repeat (first | exact Part.nil _ | refine Part.at (by repeat (first | exact At.z | apply At.s)) ?_)) ?_
        rw [hnf, ← hf, List.drop_length]
        exact ⟨none, 0, none, 0, rfl, rfl⟩
end Go.Rx
