/- The program takes a field. -/
import Derived.Test.YtcggppjpnepoiaaDoorR3
namespace Go.Rx
open Go Go.RowKit Go.Lib Go.Proofs.YtcggppjpnepoiaaDoor
set_option linter.unusedVariables false
set_option linter.unusedSimpArgs false
def leftF (F : List Int) : ByteArray := if firstF 61 F < F.length then strOf (F.take (firstF 61 F)) else strOf F
def valS (F : List Int) : ByteArray := if firstF 61 F < F.length then fieldV F else ⟨#[]⟩
theorem cutV_eq (F : List Int) : cutV F = .tuple #[.string (leftF F), .string (valS F), .bool (decide (firstF 61 F < F.length))] := by
  unfold cutV leftF valS fieldV
  by_cases h : firstF 61 F < F.length
  · rw [if_pos h, if_pos h, if_pos h, decide_eq_true h]
  · rw [if_neg h, if_neg h, if_neg h, decide_eq_false h]
theorem take_bad {F : List Int} {n0 : Int} {be : Bool} (hat : atoiOk (leftF F) = if be = true then none else some n0)
    (h : (!decide (firstF 61 F < F.length) || be || decide (4 < ((leftF F).size : Int)) || decide ((⟨(itoa n0).toArray⟩ : ByteArray) ≠ leftF F) || decide (n0 < 0)) = true) : fieldN F = none := by
  unfold fieldN
  by_cases hk : firstF 61 F < F.length ∧ firstF 61 F ≤ 4
  · rw [if_pos hk]
    have hl : leftF F = strOf (F.take (firstF 61 F)) := if_pos hk.1
    have hs : (leftF F).size = firstF 61 F := by rw [hl, strOf_size, List.length_take]; omega
    have h2 := atoi_nat2 hat (by omega)
    rw [← hl, h2, if_pos]
    simp only [Bool.or_eq_true, Bool.not_eq_true', decide_eq_true_eq, decide_eq_false_iff_not] at h ⊢
    rcases h with (((h | h) | h) | h) | h
    · exact absurd hk.1 h
    · exact .inl (.inl h)
    · omega
    · exact .inl (.inr h)
    · exact .inr h
  · rw [if_neg hk]
theorem take_ok {F : List Int} {n0 : Int} {be : Bool} (hat : atoiOk (leftF F) = if be = true then none else some n0)
    (h : (!decide (firstF 61 F < F.length) || be || decide (4 < ((leftF F).size : Int)) || decide ((⟨(itoa n0).toArray⟩ : ByteArray) ≠ leftF F) || decide (n0 < 0)) = false) : ∃ k : Nat, n0 = k ∧ fieldN F = some k ∧ valS F = fieldV F := by
  simp only [Bool.or_eq_false_iff, Bool.not_eq_false', decide_eq_true_eq, decide_eq_false_iff_not] at h
  obtain ⟨⟨⟨⟨h1, rfl⟩, h3⟩, h4⟩, h5⟩ := h
  have hl : leftF F = strOf (F.take (firstF 61 F)) := if_pos h1
  have hs : (leftF F).size = firstF 61 F := by rw [hl, strOf_size, List.length_take]; omega
  have h2 := atoi_nat2 hat (by omega)
  refine ⟨n0.toNat, (Int.toNat_of_nonneg (by omega)).symm, ?_, if_pos h1⟩
  unfold fieldN
  rw [if_pos ⟨h1, by omega⟩, ← hl, h2, if_neg]
  simp only [Bool.false_or, Bool.or_eq_true, decide_eq_true_eq]
  rintro (h | h)
  · exact h4 h
  · exact h5 h
abbrev lineC (bk : Nat) (kind : ByteArray) (tv : Value) (size place : Int) : Chunk := .box bk 75 [.string kind, tv, .int .i64 size, .int .i64 place]
abbrev tagsC (tv : Value) (xs : List Tg) : Chunk := .own 30 2 tv xs.length (xs.flatMap Tg.enc)
set_option maxHeartbeats 1000000 in
set_option maxRecDepth 100000 in
theorem textTake {w : World} {bk : Nat} {kind : ByteArray} {A : Option Addr} {c : Nat} {xs : List Tg} {size place : Int} {F : List Int} {first : Bool} (hB : isBytes F) (hl : F.length ≤ 281474976710656) (hx : xs.length ≤ 64) {ws : World} (hL : Laid ws) (hs : Upd ws w [] [lineC bk kind (.slice A xs.length c) size place, tagsC (.slice A xs.length c) xs]) :
    Spec Go.Proofs.Tryd.prog 51 #[.pointer (some ⟨bk, 0, none⟩), .string (strOf F), .bool first] w [lineC bk kind (.slice A xs.length c) size place, tagsC (.slice A xs.length c) xs] (fun u H' => ∃ A' c', u = .int .i64 (takeF F first kind xs).1 ∧
      H' = [lineC bk (takeF F first kind xs).2.1 (.slice A' (takeF F first kind xs).2.2.length c') size place, tagsC (.slice A' (takeF F first kind xs).2.2.length c') (takeF F first kind xs).2.2]) := by
  have ho := hs.own
  have hL2 : ∀ {w' : World} {H : List Chunk}, Upd w w' [lineC bk kind (.slice A xs.length c) size place, tagsC (.slice A xs.length c) xs] H → Laid w' := fun h => hL.upd (Upd.step (F := []) hs h)
  have hsz : (leftF F).size ≤ 281474976710656 := by
    unfold leftF
    split
    · rw [strOf_size, List.length_take]; omega
    · rw [strOf_size]; omega
  have hvz : (valS F).size ≤ 281474976710656 := by
    unfold valS fieldV
    split
    · rw [strOf_size, List.length_drop]; omega
    · exact Nat.zero_le _
  refine Spec.enter (fn := Go.Proofs.Tryd.f51) (n := 86) [.pointer (some ⟨bk, 0, none⟩), .string (strOf F), .bool first] Go.Proofs.Tryd.func51 (by kernel_rfl) rfl Go.Proofs.Tryd.ntmps51 Go.Proofs.Tryd.results51 rfl ho ?_
  refine JC.rs ?_
  refine Seq.p rfl Ev.assign ?_
  refine Seq.nil ?_
  refine JC.rs ?_
  refine Seq.p rfl Ev.move ?_
  refine Seq.callP rfl (fun w hw => (cutV_eq F) ▸ textCut hB hl) ?_
  refine Seq.p rfl Ev.move ?_
  refine Seq.p rfl Ev.extract ?_
  refine Seq.p rfl Ev.extract ?_
  refine Seq.p rfl Ev.extract ?_
  refine Seq.p rfl Ev.assign ?_
  refine Seq.p rfl Ev.assign ?_
  refine Seq.p rfl Ev.assign ?_
  refine Seq.nil ?_
  refine JC.rs ?_
  refine Seq.p rfl Ev.move ?_
  refine Seq.call rfl (fun w hw => textAtoi hsz (hL2 hw)) (Gs := []) (F := _) (by exact List.Perm.refl _) ?_
  rintro _ _ ⟨n0, er, be, rfl, rfl, her, hat, hn0, hn1⟩
  simp only [List.nil_append]
  refine Seq.p rfl Ev.move ?_
  refine Seq.p rfl Ev.extract ?_
  refine Seq.p rfl Ev.extract ?_
  refine Seq.p rfl Ev.assign ?_
  refine Seq.p rfl Ev.assign ?_
  refine Seq.nil ?_
  refine JC.seq ?_
  refine JC.rs ?_
  refine Seq.p rfl Ev.move ?_
  refine Seq.p rfl Ev.not ?_
  refine Seq.p rfl Ev.move ?_
  refine Seq.orG (D := [27, 28, 29, 30]) (d := 27) (t := 30) (k := 3) (hn := fun h27 => ?_) (hx := ?_)
  · repeat (first | refine Seq.gn rfl rfl rfl rfl ?_ | refine Seq.gu rfl rfl rfl ?_)
    refine Seq.p rfl Ev.pickT ?_
    exact Seq.nil ⟨rfl, (by repeat (first | with_reducible exact Off.refl | refine Off.upd ?_ rfl | exact Off.mix | refine Off.mix2 ?_ rfl)), Look.here⟩
  apply Exists.intro
  refine ⟨fun h27 => ?_, fun u30 => ?_⟩
  · try simp only [decide_eq_true_eq, decide_eq_false_iff_not, Bool.and_eq_true, Bool.or_eq_true, Bool.not_eq_true', Bool.not_eq_false', Bool.or_eq_false_iff, Bool.and_eq_false_imp] at h27
    refine Seq.gy rfl rfl rfl ?_
    refine Seq.p rfl Ev.move ?_
    refine Seq.gy rfl rfl rfl ?_
    refine Seq.p rfl (Ev.neErr her (by kernel_rfl)) ?_
    refine Seq.p rfl Ev.pickF ?_
    exact Seq.nil ⟨rfl, (by repeat (first | with_reducible exact Off.refl | refine Off.upd ?_ rfl | exact Off.mix | refine Off.mix2 ?_ rfl)), Look.here⟩
  refine Seq.p rfl Ev.move ?_
  refine Seq.orG (D := [31, 32, 33, 34, 35]) (d := 31) (t := 35) (k := 4) (hn := fun h31 => ?_) (hx := ?_)
  · repeat (first | refine Seq.gn rfl rfl rfl rfl ?_ | refine Seq.gu rfl rfl rfl ?_)
    refine Seq.p rfl Ev.pickT ?_
    exact Seq.nil ⟨rfl, (by repeat (first | with_reducible exact Off.refl | refine Off.upd ?_ rfl | exact Off.mix | refine Off.mix2 ?_ rfl)), Look.here⟩
  apply Exists.intro
  refine ⟨fun h31 => ?_, fun u35 => ?_⟩
  · try simp only [decide_eq_true_eq, decide_eq_false_iff_not, Bool.and_eq_true, Bool.or_eq_true, Bool.not_eq_true', Bool.not_eq_false', Bool.or_eq_false_iff, Bool.and_eq_false_imp] at h31
    refine Seq.gy rfl rfl rfl ?_
    refine Seq.p rfl Ev.move ?_
    refine Seq.gy rfl rfl rfl ?_
    refine Seq.p rfl (Ev.lenStr st.string) ?_
    refine Seq.gy rfl rfl rfl ?_
    refine Seq.p rfl Ev.gt ?_
    refine Seq.p rfl Ev.pickF ?_
    exact Seq.nil ⟨rfl, (by repeat (first | with_reducible exact Off.refl | refine Off.upd ?_ rfl | exact Off.mix | refine Off.mix2 ?_ rfl)), Look.here⟩
  refine Seq.p rfl Ev.move ?_
  refine Seq.orG (D := [36, 37, 38, 39, 40, 41]) (d := 36) (t := 41) (k := 5) (hn := fun h36 => ?_) (hx := ?_)
  · repeat (first | refine Seq.gn rfl rfl rfl rfl ?_ | refine Seq.gu rfl rfl rfl ?_)
    refine Seq.p rfl Ev.pickT ?_
    exact Seq.nil ⟨rfl, (by repeat (first | with_reducible exact Off.refl | refine Off.upd ?_ rfl | exact Off.mix | refine Off.mix2 ?_ rfl)), Look.here⟩
  apply Exists.intro
  refine ⟨fun h36 => ?_, fun u41 => ?_⟩
  · try simp only [decide_eq_true_eq, decide_eq_false_iff_not, Bool.and_eq_true, Bool.or_eq_true, Bool.not_eq_true', Bool.not_eq_false', Bool.or_eq_false_iff, Bool.and_eq_false_imp] at h36
    refine Seq.gy rfl rfl rfl ?_
    refine Seq.p rfl Ev.move ?_
    refine Seq.gy rfl rfl rfl ?_
    refine Seq.callP rfl (fun w hw => textItoa hn0 hn1 (hL2 hw)) ?_
    refine Seq.gy rfl rfl rfl ?_
    refine Seq.p rfl Ev.move ?_
    refine Seq.gy rfl rfl rfl ?_
    refine Seq.p rfl Ev.neStr ?_
    refine Seq.p rfl Ev.pickF ?_
    exact Seq.nil ⟨rfl, (by repeat (first | with_reducible exact Off.refl | refine Off.upd ?_ rfl | exact Off.mix | refine Off.mix2 ?_ rfl)), Look.here⟩
  refine Seq.p rfl Ev.move ?_
  refine Seq.orG (D := [42, 43, 44, 45]) (d := 42) (t := 45) (k := 3) (hn := fun h42 => ?_) (hx := ?_)
  · repeat (first | refine Seq.gn rfl rfl rfl rfl ?_ | refine Seq.gu rfl rfl rfl ?_)
    refine Seq.p rfl Ev.pickT ?_
    exact Seq.nil ⟨rfl, (by repeat (first | with_reducible exact Off.refl | refine Off.upd ?_ rfl | exact Off.mix | refine Off.mix2 ?_ rfl)), Look.here⟩
  apply Exists.intro
  refine ⟨fun h42 => ?_, fun u45 => ?_⟩
  · try simp only [decide_eq_true_eq, decide_eq_false_iff_not, Bool.and_eq_true, Bool.or_eq_true, Bool.not_eq_true', Bool.not_eq_false', Bool.or_eq_false_iff, Bool.and_eq_false_imp] at h42
    refine Seq.gy rfl rfl rfl ?_
    refine Seq.p rfl Ev.move ?_
    refine Seq.gy rfl rfl rfl ?_
    refine Seq.p rfl Ev.lt ?_
    refine Seq.p rfl Ev.pickF ?_
    exact Seq.nil ⟨rfl, (by repeat (first | with_reducible exact Off.refl | refine Off.upd ?_ rfl | exact Off.mix | refine Off.mix2 ?_ rfl)), Look.here⟩
  refine Seq.nil ?_
  first | refine JC.c (ht := fun c45 => ?_) (hf := fun c45 => ?_) | refine JC.cb (ht := fun c45 => ?_) (hf := fun c45 => ?_)
  · -- then_t45
    have hf := take_bad hat c45
    have e : takeF F first kind xs = (3, kind, xs) := by unfold takeF; rw [hf]
    refine JC.rs ?_
    refine Seq.p rfl Ev.assign ?_
    refine Seq.nil ?_
    refine JC.ret ?_
    -- return 0
    show retQ _ _ _ _ _ _ _ _
    refine ret1 (H' := [lineC bk kind (.slice A xs.length c) size place, tagsC (.slice A xs.length c) xs]) (hp := Part.refl _) (hpost := ?_)
    rw [e]
    exact ⟨A, c, rfl, rfl⟩
  · -- else_t45
    obtain ⟨k, rfl, hf, hv⟩ := take_ok hat c45
    refine JC.skip ?_
    refine JC.seq ?_
    refine JC.rs ?_
    refine Seq.p rfl Ev.move ?_
    refine Seq.nil ?_
    first | refine JC.c (ht := fun c46 => ?_) (hf := fun c46 => ?_) | refine JC.cb (ht := fun c46 => ?_) (hf := fun c46 => ?_)
    · -- then_t46
      refine JC.seq ?_
      refine JC.rs ?_
      refine Seq.p rfl Ev.move ?_
      refine Seq.p rfl Ev.ne ?_
      refine Seq.p rfl Ev.move ?_
      refine Seq.orG (D := [49, 50, 51, 52, 53]) (d := 49) (t := 53) (k := 4) (hn := fun h49 => ?_) (hx := ?_)
      · repeat (first | refine Seq.gn rfl rfl rfl rfl ?_ | refine Seq.gu rfl rfl rfl ?_)
        refine Seq.p rfl Ev.pickT ?_
        exact Seq.nil ⟨rfl, (by repeat (first | with_reducible exact Off.refl | refine Off.upd ?_ rfl | exact Off.mix | refine Off.mix2 ?_ rfl)), Look.here⟩
      apply Exists.intro
      refine ⟨fun h49 => ?_, fun u53 => ?_⟩
      · try simp only [decide_eq_true_eq, decide_eq_false_iff_not, Bool.and_eq_true, Bool.or_eq_true, Bool.not_eq_true', Bool.not_eq_false', Bool.or_eq_false_iff, Bool.and_eq_false_imp] at h49
        refine Seq.gy rfl rfl rfl ?_
        refine Seq.p rfl Ev.move ?_
        refine Seq.gy rfl rfl rfl ?_
        refine Seq.callP rfl (fun w hw => textIsKind hvz) ?_
        refine Seq.gy rfl rfl rfl ?_
        refine Seq.p rfl Ev.not ?_
        refine Seq.p rfl Ev.pickF ?_
        exact Seq.nil ⟨rfl, (by repeat (first | with_reducible exact Off.refl | refine Off.upd ?_ rfl | exact Off.mix | refine Off.mix2 ?_ rfl)), Look.here⟩
      refine Seq.nil ?_
      first | refine JC.c (ht := fun c53 => ?_) (hf := fun c53 => ?_) | refine JC.cb (ht := fun c53 => ?_) (hf := fun c53 => ?_)
      · -- then_t53
        refine JC.rs ?_
        refine Seq.p rfl Ev.assign ?_
        refine Seq.nil ?_
        refine JC.ret ?_
        -- return 1
        show retQ _ _ _ _ _ _ _ _
        refine ret1 (H' := [lineC bk kind (.slice A xs.length c) size place, tagsC (.slice A xs.length c) xs]) (hp := Part.refl _) (hpost := ?_)
        have e : takeF F first kind xs = (3, kind, xs) := by unfold takeF; rw [hf]; simp only; rw [if_pos c46, if_pos]; rw [hv] at c53; simp only [Bool.or_eq_true, Bool.not_eq_true', decide_eq_true_eq] at c53; rcases c53 with h | h; exact .inl (by omega); exact .inr h
        rw [e]
        exact ⟨A, c, rfl, rfl⟩
      · -- else_t53
        refine JC.skip ?_
        refine JC.rs ?_
        refine Seq.p rfl Ev.move ?_
        refine Seq.p rfl Ev.move ?_
        refine Seq.p rfl Ev.nilP ?_
        refine Seq.p rfl (Ev.faB fd.text_line_0) ?_
        refine Seq.storeN [_, _, _, _] sz.string (k := ?_)
        refine Seq.nil ?_
        refine JC.rs ?_
        refine Seq.p rfl Ev.assign ?_
        refine Seq.nil ?_
        refine JC.ret ?_
        -- return 2
        show retQ _ _ _ _ _ _ _ _
        refine ret1 (H' := [lineC bk (valS F) (.slice A xs.length c) size place, tagsC (.slice A xs.length c) xs]) (hp := Part.refl _) (hpost := ?_)
        have e : takeF F first kind xs = (0, fieldV F, xs) := by unfold takeF; rw [hf]; simp only; rw [if_pos c46, if_neg]; rw [hv] at c53; simp only [Bool.or_eq_false_iff, Bool.not_eq_false', decide_eq_false_iff_not] at c53; rintro (h | h); exact c53.1 (by omega); rw [c53.2] at h; cases h
        rw [e, hv]
        exact ⟨A, c, rfl, rfl⟩
    · -- else_t46
      refine JC.skip ?_
      refine JC.rs ?_
      refine Seq.p rfl Ev.move ?_
      refine Seq.p rfl Ev.move ?_
      refine Seq.p rfl (Ev.buildN [_, _] pl.api_Tag z.api_Tag) ?_
      refine Seq.alloc (cs := [_, _]) (hz := z.api_Tag) (k := ?_); intro b12
      refine Seq.storeN [_, _] sz.api_Tag (k := ?_)
      refine Seq.nil ?_
      refine JC.seq ?_
      refine JC.rs ?_
      refine Seq.p rfl Ev.move ?_
      refine Seq.p rfl Ev.nilP ?_
      refine Seq.p rfl (Ev.faB fd.text_line_1) ?_
      refine Seq.p rfl (Ev.ldB sc.sl_api_Tag) ?_
      refine Seq.p rfl (Ev.lenSl sl.sl_api_Tag (hr := RAt.own (enc := Tg.enc) (xs := xs))) ?_
      refine Seq.p rfl Ev.eq ?_
      refine Seq.nil ?_
      first | refine JC.c (ht := fun c66 => ?_) (hf := fun c66 => ?_) | refine JC.cb (ht := fun c66 => ?_) (hf := fun c66 => ?_)
      · -- then_t66
        refine JC.rs ?_
        refine Seq.p rfl Ev.assign ?_
        refine Seq.nil ?_
        refine JC.ret ?_
        -- return 3
        show retQ _ _ _ _ _ _ _ _
        refine ret1 (H' := [lineC bk kind (.slice A xs.length c) size place, tagsC (.slice A xs.length c) xs]) (hp := Part.skip (Part.refl _)) (hpost := ?_)
        have e : takeF F first kind xs = (2, kind, xs) := by unfold takeF; rw [hf]; simp only; rw [if_neg (by simp [c46]), if_pos (by omega)]
        rw [e]
        exact ⟨A, c, rfl, rfl⟩
      · -- else_t66
        refine JC.skip ?_
        refine JC.seq ?_
        refine JC.qs mixed (by kernel_rfl) ?_
        refine Qui.p rfl Ev.move ?_
        refine Qui.p rfl Ev.nilP ?_
        refine Qui.p rfl (Ev.faB fd.text_line_1) ?_
        refine Qui.p rfl (Ev.ldB sc.sl_api_Tag) ?_
        refine Qui.p rfl (Ev.ldBA ag.api_Tag) ?_
        refine Qui.call rfl (fun w hw => textRefused (t := ⟨(k : Int), valS F⟩) (RAt.up (RAt.own (enc := Tg.enc) (xs := xs)) hw) hvz) ?_
        refine Qui.p rfl Ev.assign ?_
        refine Qui.nil ?_
        refine JC.rs ?_
        refine Seq.p rfl Ev.move ?_
        refine Seq.p rfl Ev.ne ?_
        refine Seq.nil ?_
        first | refine JC.c (ht := fun c74 => ?_) (hf := fun c74 => ?_) | refine JC.cb (ht := fun c74 => ?_) (hf := fun c74 => ?_)
        · -- then_t74
          refine JC.rs ?_
          refine Seq.p rfl Ev.move ?_
          refine Seq.p rfl Ev.assign ?_
          refine Seq.nil ?_
          refine JC.ret ?_
          -- return 4
          show retQ _ _ _ _ _ _ _ _
          refine ret1 (H' := [lineC bk kind (.slice A xs.length c) size place, tagsC (.slice A xs.length c) xs]) (hp := Part.skip (Part.refl _)) (hpost := ?_)
          have e : takeF F first kind xs = (refusedF xs ⟨k, fieldV F⟩, kind, xs) := by unfold takeF; rw [hf]; simp only; rw [if_neg (by simp [c46]), if_neg (by omega), if_pos (by rw [hv] at c74; exact c74)]
          rw [e, hv]
          exact ⟨A, c, rfl, rfl⟩
        · -- else_t74
          refine JC.skip ?_
          refine JC.asP ([.box b12 30 [.int .i64 (k : Int), .string (valS F)]]) mixed (by repeat (first | exact Part.refl _ | exact Part.nil _ | apply Part.here | apply Part.skip)) ?_
          refine Any.p 0 rfl (by kernel_rfl) (by kernel_rfl) (by kernel_rfl) rfl Ev.move ?_
          refine Any.p 1 rfl (by kernel_rfl) (by kernel_rfl) (by kernel_rfl) rfl Ev.move ?_
          refine Any.p 2 rfl (by kernel_rfl) (by kernel_rfl) (by kernel_rfl) rfl Ev.nilP ?_
          refine Any.p 3 rfl (by kernel_rfl) (by kernel_rfl) (by kernel_rfl) rfl (Ev.faB fd.text_line_1) ?_
          refine Any.p 5 rfl (by kernel_rfl) (by kernel_rfl) (by kernel_rfl) rfl (Ev.ldBA ag.api_Tag) ?_
          refine Any.two 4 6 rfl rfl (by kernel_rfl) ?_ ?_
          · -- first 4
            refine Seq.p rfl (Ev.ldB sc.sl_api_Tag) ?_
            refine Seq.nil ⟨(by repeat (first | exact Part.refl _ | exact Part.nil _ | apply Part.here | apply Part.skip)), ?_⟩
            refine Any.one 6 rfl (by kernel_rfl) ?_
            refine Seq.buildSlN [_, _] (hsl := sl.sl_api_Tag) (hz := z.api_Tag) (k := ?_); intro b82
            refine Seq.nil ⟨(by repeat (first | exact Part.refl _ | exact Part.nil _ | apply Part.here | apply Part.skip)), ?_⟩
            refine Any.one 7 rfl (by kernel_rfl) ?_
            refine Seq.append (hsl := sl.sl_api_Tag) (he := el.api_Tag) (hsrc := (fun w' hw => Src.box (hl := by rfl) (hc := fun q u hu => hu) sl.sl_api_Tag At.z hw)) (k := ?_); intro A83 c83
            refine Seq.nil ⟨(by repeat (first | exact Part.refl _ | exact Part.nil _ | apply Part.here | apply Part.skip)), ?_⟩
            refine Any.p 8 rfl (by kernel_rfl) (by kernel_rfl) (by kernel_rfl) rfl Ev.nilP ?_
            refine Any.p 9 rfl (by kernel_rfl) (by kernel_rfl) (by kernel_rfl) rfl (Ev.faB fd.text_line_1) ?_
            refine Any.one 10 rfl (by kernel_rfl) ?_
            refine Seq.storeN [_, _, _, _] sz.sl_api_Tag (k := ?_)
            refine Seq.nil ⟨(by repeat (first | exact Part.refl _ | exact Part.nil _ | apply Part.here | apply Part.skip)), ?_⟩
            refine Any.done (by kernel_rfl) ?_
            refine JC.rs ?_
            refine Seq.p rfl Ev.assign ?_
            refine Seq.nil ?_
            refine JC.ret ?_
            -- return 5
            show retQ _ _ _ _ _ _ _ _
            refine ret1 (H' := [lineC bk kind (.slice A83 (xs.length + 1) c83) size place, .own 30 2 (.slice A83 (xs.length + 1) c83) (xs.length + 1) (xs.flatMap Tg.enc ++ [.int .i64 (k : Int), .string (valS F)])]) (hp := Part.skip (Part.skip (Part.refl _))) (hpost := ?_)
            have e : takeF F first kind xs = (0, kind, xs ++ [⟨k, fieldV F⟩]) := by unfold takeF; rw [hf]; simp only; rw [if_neg (by simp [c46]), if_neg (by omega), if_neg (by rw [hv] at c74; exact c74)]
            rw [e, hv]
            refine ⟨A83, c83, rfl, ?_⟩
            simp [tagsC, Tg.enc, List.flatMap_append]
          · -- first 6
            refine Seq.buildSlN [_, _] (hsl := sl.sl_api_Tag) (hz := z.api_Tag) (k := ?_); intro b82
            refine Seq.nil ⟨(by repeat (first | exact Part.refl _ | exact Part.nil _ | apply Part.here | apply Part.skip)), ?_⟩
            refine Any.one 4 rfl (by kernel_rfl) ?_
            refine Seq.p rfl (Ev.ldB sc.sl_api_Tag) ?_
            refine Seq.nil ⟨(by repeat (first | exact Part.refl _ | exact Part.nil _ | apply Part.here | apply Part.skip)), ?_⟩
            refine Any.one 7 rfl (by kernel_rfl) ?_
            refine Seq.append (hsl := sl.sl_api_Tag) (he := el.api_Tag) (hsrc := (fun w' hw => Src.box (hl := by rfl) (hc := fun q u hu => hu) sl.sl_api_Tag At.z hw)) (k := ?_); intro A83 c83
            refine Seq.nil ⟨(by repeat (first | exact Part.refl _ | exact Part.nil _ | apply Part.here | apply Part.skip)), ?_⟩
            refine Any.p 8 rfl (by kernel_rfl) (by kernel_rfl) (by kernel_rfl) rfl Ev.nilP ?_
            refine Any.p 9 rfl (by kernel_rfl) (by kernel_rfl) (by kernel_rfl) rfl (Ev.faB fd.text_line_1) ?_
            refine Any.one 10 rfl (by kernel_rfl) ?_
            refine Seq.storeN [_, _, _, _] sz.sl_api_Tag (k := ?_)
            refine Seq.nil ⟨(by repeat (first | exact Part.refl _ | exact Part.nil _ | apply Part.here | apply Part.skip)), ?_⟩
            refine Any.done (by kernel_rfl) ?_
            refine JC.rs ?_
            refine Seq.p rfl Ev.assign ?_
            refine Seq.nil ?_
            refine JC.ret ?_
            -- return 6
            show retQ _ _ _ _ _ _ _ _
            refine ret1 (H' := [lineC bk kind (.slice A83 (xs.length + 1) c83) size place, .own 30 2 (.slice A83 (xs.length + 1) c83) (xs.length + 1) (xs.flatMap Tg.enc ++ [.int .i64 (k : Int), .string (valS F)])]) (hp := Part.skip (Part.skip (Part.refl _))) (hpost := ?_)
            have e : takeF F first kind xs = (0, kind, xs ++ [⟨k, fieldV F⟩]) := by unfold takeF; rw [hf]; simp only; rw [if_neg (by simp [c46]), if_neg (by omega), if_neg (by rw [hv] at c74; exact c74)]
            rw [e, hv]
            refine ⟨A83, c83, rfl, ?_⟩
            simp [tagsC, Tg.enc, List.flatMap_append]
end Go.Rx
