/- Kinds, tags and refusals of the program. -/
import Derived.Test.YtcggppjpnepoiaaDoorP1
import Derived.Test.YtcggppjpnepoiaaDoorH1
import Derived.Test.YtcggppjpnepoiaaDoorS2
import Derived.Laws.RangeString
import Derived.Laws.RangeAny
namespace Go.Proofs.YtcggppjpnepoiaaDoor
open Go Go.RowKit Go.Lib Go.Rx
set_option linter.unusedVariables false
def notAlnum (x : Nat) : Bool := !alnum (x : Int)
theorem alnum_high {x : Int} (h : 128 ≤ x) : alnum x = false := by
  unfold alnum
  simp only [Bool.or_eq_false_iff, Bool.and_eq_false_iff, decide_eq_false_iff_not]
  omega
theorem idx_alnum (s : ByteArray) : ∀ (f pos : Nat), s.size ≤ pos + f → (idxFuncFrom notAlnum true s f pos = -1 ↔ ∀ i, pos ≤ i → i < s.size → alnum (bAt s i) = true)
  | 0, pos, h => by
    simp only [idxFuncFrom, true_iff]
    intro i h1 h2
    omega
  | f + 1, pos, h => by
    unfold idxFuncFrom
    by_cases hp : pos < s.size
    · rw [if_pos hp]
      have hb : bAt s pos = ((s[pos]'hp).toNat : Int) := by
        have hl : pos < s.data.toList.length := by simpa using hp
        unfold bAt
        rw [List.getElem?_eq_getElem hl]
        rfl
      by_cases ha : (s[pos]'hp).toNat < 128
      · rw [decode_ascii s pos hp ha]
        dsimp only
        by_cases hq : alnum (bAt s pos) = true
        · have e : notAlnum (s[pos]'hp).toNat = false := by unfold notAlnum; rw [← hb, hq]; rfl
          rw [e, if_neg (by simp), idx_alnum s f (pos + 1) (by omega)]
          constructor
          · intro hh i h1 h2
            rcases Nat.eq_or_lt_of_le h1 with rfl | h3
            · exact hq
            · exact hh i h3 h2
          · intro hh i h1 h2
            exact hh i (by omega) h2
        · have hq' : alnum (bAt s pos) = false := by simpa using hq
          have e : notAlnum (s[pos]'hp).toNat = true := by unfold notAlnum; rw [← hb, hq']; rfl
          rw [e, if_pos rfl]
          constructor
          · intro hh; omega
          · intro hh; exact absurd (hh pos (Nat.le_refl _) hp) hq
      · have hd := decode_high s pos hp (by omega)
        have e : notAlnum (Utf8.decode s pos).1 = true := by unfold notAlnum; rw [alnum_high (by omega)]; rfl
        rw [e, if_pos rfl]
        constructor
        · intro hh; omega
        · intro hh
          have := hh pos (Nat.le_refl _) hp
          rw [alnum_high (by rw [hb]; omega)] at this
          cases this
    · rw [if_neg hp]
      simp only [true_iff]
      intro i h1 h2
      omega
theorem kind_idx {s : ByteArray} (h : 1 ≤ s.size ∧ s.size ≤ 2) : (!decide (0 ≤ idxFunc notAlnum true s)) = kindB s := by
  have hr := idxFunc_range notAlnum true s
  have hi := idx_alnum s s.size 0 (by omega)
  have e : (decide (s.size = 1) || decide (s.size = 2)) = true := by
    simp only [Bool.or_eq_true, decide_eq_true_eq]
    omega
  unfold kindB
  rw [e, Bool.true_and]
  cases ha : (bytesOf s).all alnum with
  | true =>
    have h1 : idxFunc notAlnum true s = -1 := hi.2 fun i _ h2 => bytesOf_all.1 ha i h2
    rw [h1]
    rfl
  | false =>
    have h1 : ¬ idxFunc notAlnum true s = -1 := fun hh => by
      have := bytesOf_all.2 fun i h2 => hi.1 hh i (Nat.zero_le _) h2
      rw [ha] at this
      cases this
    have h2 : 0 ≤ idxFunc notAlnum true s := by omega
    rw [decide_eq_true h2]
    rfl
theorem kindB_size {s : ByteArray} (h : ¬ (1 ≤ s.size ∧ s.size ≤ 2)) : kindB s = false := by
  have e : (decide (s.size = 1) || decide (s.size = 2)) = false := by
    simp only [Bool.or_eq_false_iff, decide_eq_false_iff_not]
    omega
  unfold kindB
  rw [e, Bool.false_and]
end Go.Proofs.YtcggppjpnepoiaaDoor
namespace Go.Rx
open Go Go.RowKit Go.Proofs.YtcggppjpnepoiaaDoor
set_option linter.unusedVariables false
set_option maxRecDepth 100000 in
theorem kindClosure {w : World} {x : Int} : Spec Go.Proofs.Tryd.prog 57 #[.int .i32 x] w [] (fun u _ => u = .bool (!alnum x)) := by
  refine Spec.enter (fn := Go.Proofs.Tryd.f57) (n := 28) [.int .i32 x] Go.Proofs.Tryd.func57 (by kernel_rfl) rfl Go.Proofs.Tryd.ntmps57 Go.Proofs.Tryd.results57 rfl (Own.nil _) ?_
  refine JC.rs ?_
  refine Seq.p rfl Ev.assign ?_
  refine Seq.nil ?_
  refine JC.rs ?_
  refine Seq.p rfl Ev.move ?_
  refine Seq.p rfl Ev.ge ?_
  refine Seq.p rfl Ev.move ?_
  refine Seq.andG (D := [5, 6, 7, 8]) (d := 5) (t := 8) (k := 3) (hn := fun h5 => ?_) (hx := ?_)
  · repeat (first | refine Seq.gn rfl rfl rfl rfl ?_ | refine Seq.gu rfl rfl rfl ?_)
    refine Seq.p rfl Ev.pickF ?_
    exact Seq.nil ⟨rfl, (by repeat (first | with_reducible exact Off.refl | refine Off.upd ?_ rfl | exact Off.mix | refine Off.mix2 ?_ rfl)), Look.here⟩
  apply Exists.intro
  refine ⟨fun h5 => ?_, fun u8 => ?_⟩
  · try simp only [decide_eq_true_eq, decide_eq_false_iff_not, Bool.and_eq_true, Bool.or_eq_true, Bool.not_eq_true', Bool.not_eq_false', Bool.or_eq_false_iff, Bool.and_eq_false_imp] at h5
    refine Seq.gy rfl rfl rfl ?_
    refine Seq.p rfl Ev.move ?_
    refine Seq.gy rfl rfl rfl ?_
    refine Seq.p rfl Ev.le ?_
    refine Seq.p rfl Ev.pickT ?_
    exact Seq.nil ⟨rfl, (by repeat (first | with_reducible exact Off.refl | refine Off.upd ?_ rfl | exact Off.mix | refine Off.mix2 ?_ rfl)), Look.here⟩
  refine Seq.p rfl Ev.not ?_
  refine Seq.p rfl Ev.move ?_
  refine Seq.andG (D := [10, 11, 12, 13, 14, 15, 16, 17, 18]) (d := 10) (t := 18) (k := 8) (hn := fun h10 => ?_) (hx := ?_)
  · repeat (first | refine Seq.gn rfl rfl rfl rfl ?_ | refine Seq.gu rfl rfl rfl ?_)
    refine Seq.p rfl Ev.pickF ?_
    exact Seq.nil ⟨rfl, (by repeat (first | with_reducible exact Off.refl | refine Off.upd ?_ rfl | exact Off.mix | refine Off.mix2 ?_ rfl)), Look.here⟩
  apply Exists.intro
  refine ⟨fun h10 => ?_, fun u18 => ?_⟩
  · try simp only [decide_eq_true_eq, decide_eq_false_iff_not, Bool.and_eq_true, Bool.or_eq_true, Bool.not_eq_true', Bool.not_eq_false', Bool.or_eq_false_iff, Bool.and_eq_false_imp] at h10
    refine Seq.gy rfl rfl rfl ?_
    refine Seq.p rfl Ev.move ?_
    refine Seq.gy rfl rfl rfl ?_
    refine Seq.p rfl Ev.ge ?_
    refine Seq.gy rfl rfl rfl ?_
    refine Seq.p rfl Ev.move ?_
    refine Seq.andG (D := [13, 14, 15, 16]) (d := 13) (t := 16) (k := 3) (hn := fun h13 => ?_) (hx := ?_)
    · repeat (first | refine Seq.gn rfl rfl rfl rfl ?_ | refine Seq.gu rfl rfl rfl ?_)
      refine Seq.gy rfl rfl rfl ?_
      refine Seq.p rfl Ev.pickF ?_
      exact Seq.nil ⟨rfl, (by repeat (first | with_reducible exact Off.refl | refine Off.upd ?_ rfl | exact Off.mix | refine Off.mix2 ?_ rfl)), Look.here⟩
    apply Exists.intro
    refine ⟨fun h13 => ?_, fun u16 => ?_⟩
    · try simp only [decide_eq_true_eq, decide_eq_false_iff_not, Bool.and_eq_true, Bool.or_eq_true, Bool.not_eq_true', Bool.not_eq_false', Bool.or_eq_false_iff, Bool.and_eq_false_imp] at h13
      refine Seq.gy rfl rfl rfl ?_
      refine Seq.p rfl Ev.move ?_
      refine Seq.gy rfl rfl rfl ?_
      refine Seq.p rfl Ev.le ?_
      refine Seq.gy rfl rfl rfl ?_
      refine Seq.p rfl Ev.pickT ?_
      exact Seq.nil ⟨rfl, (by repeat (first | with_reducible exact Off.refl | refine Off.upd ?_ rfl | exact Off.mix | refine Off.mix2 ?_ rfl)), Look.here⟩
    refine Seq.gy rfl rfl rfl ?_
    refine Seq.p rfl Ev.not ?_
    refine Seq.p rfl Ev.pickT ?_
    exact Seq.nil ⟨rfl, (by repeat (first | with_reducible exact Off.refl | refine Off.upd ?_ rfl | exact Off.mix | refine Off.mix2 ?_ rfl)), Look.here⟩
  refine Seq.p rfl Ev.move ?_
  refine Seq.andG (D := [19, 20, 21, 22, 23, 24, 25, 26, 27]) (d := 19) (t := 27) (k := 8) (hn := fun h19 => ?_) (hx := ?_)
  · repeat (first | refine Seq.gn rfl rfl rfl rfl ?_ | refine Seq.gu rfl rfl rfl ?_)
    refine Seq.p rfl Ev.pickF ?_
    exact Seq.nil ⟨rfl, (by repeat (first | with_reducible exact Off.refl | refine Off.upd ?_ rfl | exact Off.mix | refine Off.mix2 ?_ rfl)), Look.here⟩
  apply Exists.intro
  refine ⟨fun h19 => ?_, fun u27 => ?_⟩
  · try simp only [decide_eq_true_eq, decide_eq_false_iff_not, Bool.and_eq_true, Bool.or_eq_true, Bool.not_eq_true', Bool.not_eq_false', Bool.or_eq_false_iff, Bool.and_eq_false_imp] at h19
    refine Seq.gy rfl rfl rfl ?_
    refine Seq.p rfl Ev.move ?_
    refine Seq.gy rfl rfl rfl ?_
    refine Seq.p rfl Ev.ge ?_
    refine Seq.gy rfl rfl rfl ?_
    refine Seq.p rfl Ev.move ?_
    refine Seq.andG (D := [22, 23, 24, 25]) (d := 22) (t := 25) (k := 3) (hn := fun h22 => ?_) (hx := ?_)
    · repeat (first | refine Seq.gn rfl rfl rfl rfl ?_ | refine Seq.gu rfl rfl rfl ?_)
      refine Seq.gy rfl rfl rfl ?_
      refine Seq.p rfl Ev.pickF ?_
      exact Seq.nil ⟨rfl, (by repeat (first | with_reducible exact Off.refl | refine Off.upd ?_ rfl | exact Off.mix | refine Off.mix2 ?_ rfl)), Look.here⟩
    apply Exists.intro
    refine ⟨fun h22 => ?_, fun u25 => ?_⟩
    · try simp only [decide_eq_true_eq, decide_eq_false_iff_not, Bool.and_eq_true, Bool.or_eq_true, Bool.not_eq_true', Bool.not_eq_false', Bool.or_eq_false_iff, Bool.and_eq_false_imp] at h22
      refine Seq.gy rfl rfl rfl ?_
      refine Seq.p rfl Ev.move ?_
      refine Seq.gy rfl rfl rfl ?_
      refine Seq.p rfl Ev.le ?_
      refine Seq.gy rfl rfl rfl ?_
      refine Seq.p rfl Ev.pickT ?_
      exact Seq.nil ⟨rfl, (by repeat (first | with_reducible exact Off.refl | refine Off.upd ?_ rfl | exact Off.mix | refine Off.mix2 ?_ rfl)), Look.here⟩
    refine Seq.gy rfl rfl rfl ?_
    refine Seq.p rfl Ev.not ?_
    refine Seq.p rfl Ev.pickT ?_
    exact Seq.nil ⟨rfl, (by repeat (first | with_reducible exact Off.refl | refine Off.upd ?_ rfl | exact Off.mix | refine Off.mix2 ?_ rfl)), Look.here⟩
  refine Seq.p rfl Ev.assign ?_
  refine Seq.nil ?_
  refine JC.ret ?_
  -- return 0
  show retQ _ _ _ _ _ _ _ _
  refine ret1 (hp := Part.nil _) (hpost := ?_)
  unfold alnum
  simp [Bool.not_or]
end Go.Rx
namespace Go.Proofs.YtcggppjpnepoiaaDoor
open Go Go.RowKit Go.Lib Go.Rx
set_option linter.unusedVariables false
set_option maxHeartbeats 1000000 in
set_option maxRecDepth 100000 in
theorem isKindC {s : ByteArray} (hs : s.size ≤ 281474976710656) (w : World) : Calls Go.Proofs.Tryd.prog 37 #[.string s] w fun e w' => e = .returned (.bool (kindB s)) ∧ Below w.heap.size w w' := by
  by_cases h : 1 ≤ s.size ∧ s.size ≤ 2
  · have hp : ∀ w, PredGrows Go.Proofs.Tryd.prog 57 #[] notAlnum w := by
      intro w W x _ _
      refine (kindClosure (w := W) (x := (x : Int))).2.mono ?_
      rintro e w' ⟨_, H', rfl, hu, rfl⟩
      exact ⟨rfl, hu.below'⟩
    have e57 : ∀ args w, (callFunc 57 args).run Go.Proofs.Tryd.prog w = .ok (.enter 57 args) w := enters_of Go.Proofs.Tryd.func57 (by kernel_rfl) rfl
    have hk := kind_idx h
    obtain ⟨I, hI⟩ : ∃ I, idxFunc notAlnum true s = I := ⟨_, rfl⟩
    have hc := fun w => Go.Proofs.Tryd.strings_ContainsFunc_grows 57 #[] e57 notAlnum s w (hp w)
    rw [hI] at hk
    simp only [hI] at hc
    obtain ⟨b, hb⟩ : ∃ b, decide (0 ≤ I) = b := ⟨_, rfl⟩
    rw [hb] at hk
    simp only [hb] at hc
    go_enter Go.Proofs.Tryd.func37, Go.Proofs.Tryd.ntmps37
    go_wp2_with (go_at_call 56; refine (hc _).mono ?_; rintro e w1 ⟨rfl, hb1⟩)
    go_ret
    exact ⟨rfl, hb1⟩
  · rw [kindB_size h]
    go_enter Go.Proofs.Tryd.func37, Go.Proofs.Tryd.ntmps37
    go_wp2
    all_goals (go_ret; exact ⟨rfl, Below.refl _ _⟩)
theorem textIsKind {s : ByteArray} (hs : s.size ≤ 281474976710656) {w : World} : Go.Rx.Spec Go.Proofs.Tryd.prog 37 #[.string s] w [] (fun u _ => u = .bool (kindB s)) :=
  spec_of_below ⟨Go.Proofs.Tryd.f37, Go.Proofs.Tryd.func37, by kernel_rfl, rfl⟩ (isKindC hs w)
end Go.Proofs.YtcggppjpnepoiaaDoor
