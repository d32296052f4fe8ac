/- Which books can be: the document's Valid tells the same. -/
import Derived.Test.YtkmakbkchnibkaaV2
namespace Go.Rx
open Go Go.RowKit
set_option linter.unusedVariables false
set_option linter.unusedSimpArgs false
theorem restOne : ∀ (x : Resting), ∀ u ∈ x.enc, u.oneCell' = true := by
  intro x u hu
  simp [Resting.enc] at hu
  rcases hu with h | h | h | h | h | h | h <;> (subst h; rfl)
def twiceB (l : List Resting) : Prop := ∃ i < l.length, ∃ j < i, (l[i]!).id = (l[j]!).id
instance (l : List Resting) : Decidable (twiceB l) := by unfold twiceB; infer_instance
set_option maxRecDepth 100000 in
theorem refTwice {w : World} {v : Value} {l : List Resting} (hr : RSl Resting.enc 7 w [] v l) : Spec Go.Proofs.Try.prog 36 #[v] w [] (fun u _ => u = .bool (decide (twiceB l))) := by
  have hsm := hr.small
  refine Spec.enter (fn := Go.Proofs.Try.f36) (n := 27) [v] Go.Proofs.Try.func36 (by kernel_rfl) rfl Go.Proofs.Try.ntmps36 Go.Proofs.Try.results36 rfl (Own.nil _) ?_
  refine JC.rs ?_
  refine Seq.p rfl Ev.assign ?_
  refine Seq.nil ?_
  refine JC.seq ?_
  refine JC.rs ?_
  refine Seq.p rfl Ev.assign ?_
  refine Seq.nil ?_
  refine JC.blk ?_
  refine JC.loop (α := Nat) (I := fun i e1 H1 => Has [2, 3, 4, 5, 6, 7, 8, 9, 10, 11, 12, 13, 14, 15, 16, 17, 18, 19, 20, 21, 22, 23, 24, 25, 26] [(3, .int .i64 (i : Int))] _ e1 ∧ H1 = _ ∧ i ≤ l.length ∧ ∀ a < i, ∀ b < a, (l[a]!).id ≠ (l[b]!).id) (μ := fun i => l.length - i) 0 ⟨Has.mk Off.refl (allLook_cons (by repeat (first | exact Look.here | apply Look.there (hne := rfl) | exact Look.const | apply Look.mix rfl | exact Look.arg0 | apply Look.args | exact Look.func)) allLook_nil), rfl, by omega, by omega⟩ ?_
  rintro i _ _ ⟨⟨u, rfl⟩, rfl, hi, hno⟩; dsimp only [setL]
  refine JC.seq ?_
  refine JC.rs ?_
  refine Seq.p rfl Ev.move ?_
  refine Seq.p rfl Ev.move ?_
  refine Seq.p rfl (Ev.lenSl sl.sl_api_Resting (hr := hr.r)) ?_
  refine Seq.p rfl Ev.lt ?_
  refine Seq.nil ?_
  first | refine JC.c (ht := fun c8 => ?_) (hf := fun c8 => ?_) | refine JC.cb (ht := fun c8 => ?_) (hf := fun c8 => ?_)
  · -- then_t8
    have hi2 : i < l.length := by omega
    refine JC.skip ?_
    refine JC.seq ?_
    refine JC.blk ?_
    refine JC.rs ?_
    refine Seq.p rfl Ev.assign ?_
    refine Seq.nil ?_
    refine JC.blk ?_
    refine JC.loop (α := Nat) (I := fun j e1 H1 => Has [2, 4, 11, 12, 13, 14, 15, 16, 17, 18, 19, 20, 21, 22, 23, 24, 25, 26] [(4, .int .i64 (j : Int))] _ e1 ∧ H1 = _ ∧ j ≤ i ∧ ∀ b < j, (l[i]!).id ≠ (l[b]!).id) (μ := fun j => i - j) 0 ⟨Has.mk Off.refl (allLook_cons (by repeat (first | exact Look.here | apply Look.there (hne := rfl) | exact Look.const | apply Look.mix rfl | exact Look.arg0 | apply Look.args | exact Look.func)) allLook_nil), rfl, by omega, by omega⟩ ?_
    rintro j _ _ ⟨⟨u, rfl⟩, rfl, hj, hnj⟩; dsimp only [setL]
    refine JC.seq ?_
    refine JC.rs ?_
    refine Seq.p rfl Ev.move ?_
    refine Seq.p rfl Ev.move ?_
    refine Seq.p rfl Ev.lt ?_
    refine Seq.nil ?_
    first | refine JC.c (ht := fun c13 => ?_) (hf := fun c13 => ?_) | refine JC.cb (ht := fun c13 => ?_) (hf := fun c13 => ?_)
    · -- then_t13
      have hj2 : j < i := by omega
      refine JC.skip ?_
      refine JC.seq ?_
      refine JC.blk ?_
      refine JC.qs mixed (by kernel_rfl) ?_
      refine Qui.p rfl Ev.move ?_
      refine Qui.p rfl Ev.move ?_
      refine Qui.p rfl (Ev.iaN sl.sl_api_Resting (hr := hr.r)) ?_
      refine Qui.p rfl (Ev.fa fd.api_Resting_0) ?_
      refine Qui.p rfl (Ev.ldE sc.uint64 (hr := hr.r)) ?_
      refine Qui.p rfl Ev.move ?_
      refine Qui.p rfl Ev.move ?_
      refine Qui.p rfl (Ev.iaN sl.sl_api_Resting (hr := hr.r)) ?_
      refine Qui.p rfl (Ev.fa fd.api_Resting_0) ?_
      refine Qui.p rfl (Ev.ldE sc.uint64 (hr := hr.r)) ?_
      refine Qui.p rfl Ev.eq ?_
      refine Qui.nil ?_
      first | refine JC.c (ht := fun c26 => ?_) (hf := fun c26 => ?_) | refine JC.cb (ht := fun c26 => ?_) (hf := fun c26 => ?_)
      · -- then_t26
        refine JC.rs ?_
        refine Seq.p rfl Ev.assign ?_
        refine Seq.nil ?_
        refine JC.ret ?_
        -- return 0
        show retQ _ _ _ _ _ _ _ _
        refine ret1 (hp := Part.nil _) (hpost := ?_)
        have : twiceB l := ⟨i, hi2, j, hj2, c26⟩
        rw [decide_eq_true this]
      · -- else_t26
        refine JC.skip ?_
        refine JC.reg ?_
        refine Seq.p rfl Ev.move ?_
        refine Seq.p rfl (by first | exact Ev.inc | exact Ev.add) ?_
        refine Seq.p rfl Ev.assign ?_
        refine Seq.nil ?_
        refine ⟨j + 1, _, Part.refl _, ⟨Has.mk (by repeat (first | refine Off.upd ?_ rfl | exact Off.mix | refine Off.mix2 ?_ rfl | exact Off.refl)) (allLook_cons (by repeat (first | exact Look.here | apply Look.there (hne := rfl) | exact Look.const | apply Look.mix rfl | exact Look.arg0 | apply Look.args | exact Look.func)) allLook_nil), rfl, by omega, ?_⟩, by omega⟩
        intro b hb
        by_cases h : b = j
        · rw [h]; exact c26
        · exact hnj b (by omega)
    · -- else_t13
      refine JC.exit ?_ -- 2
      refine JC.reg ?_
      refine Seq.p rfl Ev.move ?_
      refine Seq.p rfl (by first | exact Ev.inc | exact Ev.add) ?_
      refine Seq.p rfl Ev.assign ?_
      refine Seq.nil ?_
      refine ⟨i + 1, _, Part.refl _, ⟨Has.mk (by repeat (first | refine Off.upd ?_ rfl | exact Off.mix | refine Off.mix2 ?_ rfl | exact Off.refl)) (allLook_cons (by repeat (first | exact Look.here | apply Look.there (hne := rfl) | exact Look.const | apply Look.mix rfl | exact Look.arg0 | apply Look.args | exact Look.func)) allLook_nil), rfl, by omega, ?_⟩, by omega⟩
      intro a ha b hb
      by_cases h : a = i
      · subst h; exact hnj b (by omega)
      · exact hno a (by omega) b hb
  · -- else_t8
    refine JC.exit ?_ -- 0
    refine JC.rs ?_
    refine Seq.p rfl Ev.assign ?_
    refine Seq.nil ?_
    refine JC.ret ?_
    -- return 1
    show retQ _ _ _ _ _ _ _ _
    refine ret1 (hp := Part.nil _) (hpost := ?_)
    have : ¬ twiceB l := by
      rintro ⟨a, ha, b, hb, h⟩
      exact hno a (by omega) b hb h
    rw [decide_eq_false this]
def sortedP (s : Int) (l : List Resting) : Prop := ∀ i < l.length, 0 < i → betterB s (l[i]!).price (l[i - 1]!).price = false
instance (s : Int) (l : List Resting) : Decidable (sortedP s l) := by unfold sortedP; infer_instance
set_option maxRecDepth 100000 in
theorem refSorted {w : World} {v : Value} {l : List Resting} {s : Int} (hr : RSl Resting.enc 7 w [] v l) : Spec Go.Proofs.Try.prog 37 #[.int .i64 s, v] w [] (fun u _ => u = .bool (decide (sortedP s l))) := by
  have hsm := hr.small
  refine Spec.enter (fn := Go.Proofs.Try.f37) (n := 25) [.int .i64 s, v] Go.Proofs.Try.func37 (by kernel_rfl) rfl Go.Proofs.Try.ntmps37 Go.Proofs.Try.results37 rfl (Own.nil _) ?_
  refine JC.rs ?_
  refine Seq.p rfl Ev.assign ?_
  refine Seq.nil ?_
  refine JC.seq ?_
  refine JC.rs ?_
  refine Seq.p rfl Ev.assign ?_
  refine Seq.nil ?_
  refine JC.blk ?_
  refine JC.loop (α := Nat) (I := fun i e1 H1 => Has [4, 5, 6, 7, 8, 9, 10, 11, 12, 13, 14, 15, 16, 17, 18, 19, 20, 21, 22, 23, 24] [(5, .int .i64 (i : Int))] _ e1 ∧ H1 = _ ∧ 1 ≤ i ∧ (i ≤ l.length ∨ i = 1) ∧ ∀ a < i, 0 < a → betterB s (l[a]!).price (l[a - 1]!).price = false) (μ := fun i => l.length - i) 1 ⟨Has.mk Off.refl (allLook_cons (by repeat (first | exact Look.here | apply Look.there (hne := rfl) | exact Look.const | apply Look.mix rfl | exact Look.arg0 | apply Look.args | exact Look.func)) allLook_nil), rfl, by omega, by omega, by omega⟩ ?_
  rintro i _ _ ⟨⟨u, rfl⟩, rfl, hi1, hi, hno⟩; dsimp only [setL]
  refine JC.seq ?_
  refine JC.rs ?_
  refine Seq.p rfl Ev.move ?_
  refine Seq.p rfl Ev.move ?_
  refine Seq.p rfl (Ev.lenSl sl.sl_api_Resting (hr := hr.r)) ?_
  refine Seq.p rfl Ev.lt ?_
  refine Seq.nil ?_
  first | refine JC.c (ht := fun c9 => ?_) (hf := fun c9 => ?_) | refine JC.cb (ht := fun c9 => ?_) (hf := fun c9 => ?_)
  · -- then_t9
    have hi2 : i < l.length := by omega
    refine JC.skip ?_
    refine JC.seq ?_
    refine JC.blk ?_
    refine JC.qs mixed (by kernel_rfl) ?_
    refine Qui.p rfl Ev.move ?_
    refine Qui.p rfl Ev.move ?_
    refine Qui.p rfl Ev.move ?_
    refine Qui.p rfl (Ev.iaN sl.sl_api_Resting (hr := hr.r)) ?_
    refine Qui.p rfl (Ev.fa fd.api_Resting_3) ?_
    refine Qui.p rfl (Ev.ldE sc.int (hr := hr.r)) ?_
    refine Qui.p rfl Ev.move ?_
    refine Qui.p rfl Ev.move ?_
    refine Qui.p rfl Ev.dec ?_
    refine Qui.p rfl (Ev.iaN sl.sl_api_Resting (hr := hr.r)) ?_
    refine Qui.p rfl (Ev.fa fd.api_Resting_3) ?_
    refine Qui.p rfl (Ev.ldE sc.int (hr := hr.r)) ?_
    refine Qui.call rfl (fun w hw => refBetter) ?_
    refine Qui.nil ?_
    first | refine JC.c (ht := fun c24 => ?_) (hf := fun c24 => ?_) | refine JC.cb (ht := fun c24 => ?_) (hf := fun c24 => ?_)
    · -- then_t24
      refine JC.rs ?_
      refine Seq.p rfl Ev.assign ?_
      refine Seq.nil ?_
      refine JC.ret ?_
      -- return 0
      show retQ _ _ _ _ _ _ _ _
      refine ret1 (hp := Part.nil _) (hpost := ?_)
      have : ¬ sortedP s l := fun h => by rw [h i hi2 (by omega)] at c24; cases c24
      rw [decide_eq_false this]
    · -- else_t24
      refine JC.skip ?_
      refine JC.reg ?_
      refine Seq.p rfl Ev.move ?_
      refine Seq.p rfl (by first | exact Ev.inc | exact Ev.add) ?_
      refine Seq.p rfl Ev.assign ?_
      refine Seq.nil ?_
      refine ⟨i + 1, _, Part.refl _, ⟨Has.mk (by repeat (first | refine Off.upd ?_ rfl | exact Off.mix | refine Off.mix2 ?_ rfl | exact Off.refl)) (allLook_cons (by repeat (first | exact Look.here | apply Look.there (hne := rfl) | exact Look.const | apply Look.mix rfl | exact Look.arg0 | apply Look.args | exact Look.func)) allLook_nil), rfl, by omega, by omega, ?_⟩, by omega⟩
      intro a ha h0
      by_cases h : a = i
      · subst h; exact c24
      · exact hno a (by omega) h0
  · -- else_t9
    refine JC.exit ?_ -- 0
    refine JC.rs ?_
    refine Seq.p rfl Ev.assign ?_
    refine Seq.nil ?_
    refine JC.ret ?_
    -- return 1
    show retQ _ _ _ _ _ _ _ _
    refine ret1 (hp := Part.nil _) (hpost := ?_)
    have : sortedP s l := fun a ha h0 => hno a (by omega) h0
    rw [decide_eq_true this]
def okRef (b : Book) : Prop :=
  cfgB b.cap b.meet = true ∧ (b.buys.length : Int) ≤ 4096 ∧ (b.sells.length : Int) ≤ 4096 ∧ (b.buys.length : Int) + b.sells.length ≤ b.cap ∧ (∀ i < (b.buys ++ b.sells).length, ((b.buys ++ b.sells)[i]!).can b.high) ∧
  ¬ twiceB (b.buys ++ b.sells) ∧ sortedP 1 b.buys ∧ sortedP 2 b.sells ∧ (0 < b.buys.length → 0 < b.sells.length → b.buys[0]!.price < b.sells[0]!.price)
theorem seenIds_eq (b : Book) {k i : Nat} (hk : k < 2) (hi : i ≤ (sideL b k).length) : seenIds b k i = ((b.buys ++ b.sells).take ((if k = 0 then 0 else b.buys.length) + i)).map (·.id) := by
  unfold seenIds
  by_cases h : k = 0
  · subst h
    simp only [if_true, Nat.zero_add, List.nil_append, sideL] at hi ⊢
    rw [List.take_append_of_le_length hi]
  · simp only [if_neg h, sideL]
    rw [← List.map_append, List.take_length_add_append]
theorem allAt (b : Book) {k i : Nat} (hk : k < 2) (hi : i < (sideL b k).length) : (b.buys ++ b.sells)[(if k = 0 then 0 else b.buys.length) + i]! = (sideL b k)[i]! ∧ (if k = 0 then 0 else b.buys.length) + i < (b.buys ++ b.sells).length := by
  by_cases h : k = 0
  · subst h
    simp only [if_true, Nat.zero_add, sideL] at hi ⊢
    refine ⟨?_, by simp; omega⟩
    rw [getElem!_pos _ i (by simp; omega), getElem!_pos _ i hi, List.getElem_append_left hi]
  · simp only [if_neg h, sideL] at hi ⊢
    refine ⟨?_, by simp; omega⟩
    rw [getElem!_pos _ _ (by simp; omega), getElem!_pos _ i hi, List.getElem_append_right (by omega)]
    congr 1
    omega
theorem atSide (b : Book) {n : Nat} (hn : n < (b.buys ++ b.sells).length) : ∃ k i, k < 2 ∧ i < (sideL b k).length ∧ n = (if k = 0 then 0 else b.buys.length) + i := by
  rw [List.length_append] at hn
  by_cases h : n < b.buys.length
  · exact ⟨0, n, by omega, h, by simp⟩
  · exact ⟨1, n - b.buys.length, by omega, by simp [sideL]; omega, by simp; omega⟩
theorem okRef_iff (b : Book) : okRef b ↔ b.ok := by
  unfold okRef Book.ok
  constructor
  · rintro ⟨h1, h2, h3, h4, h5, h6, h7, h8, h9⟩
    refine ⟨h1, h4, ?_, h9⟩
    intro k hk i hi
    obtain ⟨e1, e2⟩ := allAt b hk hi
    refine ⟨by rw [← e1]; exact h5 _ e2, ?_, ?_⟩
    · rw [seenIds_eq b hk (by omega)]
      intro hm
      obtain ⟨x, hx, hxid⟩ := List.mem_map.1 hm
      obtain ⟨j, hj, rfl⟩ := List.getElem_of_mem hx
      rw [List.length_take] at hj
      refine h6 ⟨_, e2, j, by omega, ?_⟩
      rw [e1, getElem!_pos _ j (by omega), ← hxid, List.getElem_take]
    · intro h0
      by_cases h : k = 0
      · subst h
        exact h7 i hi h0
      · obtain rfl : k = 1 := by omega
        exact h8 i hi h0
  · rintro ⟨h1, h2, h3, h4⟩
    have hc := cfgB_iff.1 h1
    refine ⟨h1, by omega, by omega, h2, ?_, ?_, ?_, ?_, h4⟩
    · intro n hn
      obtain ⟨k, i, hk, hi, rfl⟩ := atSide b hn
      rw [(allAt b hk hi).1]
      exact (h3 k hk i hi).1
    · rintro ⟨n, hn, j, hj, he⟩
      obtain ⟨k, i, hk, hi, rfl⟩ := atSide b hn
      have h5 := (h3 k hk i hi).2.1
      rw [seenIds_eq b hk (by omega)] at h5
      refine h5 (List.mem_map.2 ⟨(b.buys ++ b.sells)[j]!, ?_, ?_⟩)
      · rw [getElem!_pos _ j (by omega), List.mem_take_iff_getElem]
        exact ⟨j, by omega, rfl⟩
      · rw [← he, (allAt b hk hi).1]
    · intro i hi h0
      exact (h3 0 (by omega) i hi).2.2 h0
    · intro i hi h0
      exact (h3 1 (by omega) i hi).2.2 h0
set_option maxHeartbeats 2000000 in
set_option maxRecDepth 100000 in
theorem refValid {w : World} {b : Book} {vb vs : Value} (hb : RSl Resting.enc 7 w [] vb b.buys) (hs : RSl Resting.enc 7 w [] vs b.sells) (wf : b.Wf) :
    Spec Go.Proofs.Try.prog 27 #[.agg (bookV b vb vs).toArray] w [] (fun u _ => u = .int .i64 (validE b)) := by
  have hb1 := hb.small
  have hs1 := hs.small
  obtain ⟨Ab, cb, rfl, _, _⟩ := hb.shape
  obtain ⟨As, cs, rfl, _, _⟩ := hs.shape
  generalize hvb : Value.slice Ab b.buys.length cb = vb at hb
  generalize hvs : Value.slice As b.sells.length cs = vs at hs
  subst hvb hvs
  refine Spec.enter (fn := Go.Proofs.Try.f27) (n := 92) [.agg (bookV b (.slice Ab b.buys.length cb) (.slice As b.sells.length cs)).toArray] Go.Proofs.Try.func27 (by kernel_rfl) rfl Go.Proofs.Try.ntmps27 Go.Proofs.Try.results27 rfl (Own.nil _) ?_
  refine JC.rs ?_
  refine Seq.box (cs := [_, _, _, _, _, _]) (k := ?_); intro b1
  refine Seq.p rfl Ev.assign ?_
  refine Seq.nil ?_
  refine JC.seq ?_
  refine JC.rs ?_
  refine Seq.p rfl (Ev.faB fd.api_Book_0) ?_
  refine Seq.p rfl (Ev.ldBPN [_, _] ag.api_Config) ?_
  refine Seq.callP rfl (fun w hw => refConf) ?_
  refine Seq.p rfl Ev.not ?_
  refine Seq.p rfl Ev.move ?_
  refine Seq.orG (D := [9, 10, 11, 12, 13, 14]) (d := 9) (t := 14) (k := 5) (hn := fun h9 => ?_) (hx := ?_)
  · repeat (first | refine Seq.gn rfl rfl rfl rfl ?_ | refine Seq.gu rfl rfl rfl ?_)
    refine Seq.p rfl Ev.pickT ?_
    exact Seq.nil ⟨rfl, (by repeat (first | with_reducible exact Off.refl | refine Off.upd ?_ rfl | exact Off.mix | refine Off.mix2 ?_ rfl)), Look.here⟩
  apply Exists.intro
  refine ⟨fun h9 => ?_, fun u14 => ?_⟩
  · try simp only [decide_eq_true_eq, decide_eq_false_iff_not, Bool.and_eq_true, Bool.or_eq_true, Bool.not_eq_true', Bool.not_eq_false', Bool.or_eq_false_iff, Bool.and_eq_false_imp] at h9
    refine Seq.gy rfl rfl rfl ?_
    refine Seq.p rfl (Ev.faB fd.api_Book_1) ?_
    refine Seq.gy rfl rfl rfl ?_
    refine Seq.p rfl (Ev.ldB sc.sl_api_Resting) ?_
    refine Seq.gy rfl rfl rfl ?_
    refine Seq.p rfl (Ev.lenSl sl.sl_api_Resting (hr := hb.r)) ?_
    refine Seq.gy rfl rfl rfl ?_
    refine Seq.p rfl Ev.gt ?_
    refine Seq.p rfl Ev.pickF ?_
    exact Seq.nil ⟨rfl, (by repeat (first | with_reducible exact Off.refl | refine Off.upd ?_ rfl | exact Off.mix | refine Off.mix2 ?_ rfl)), Look.here⟩
  refine Seq.p rfl Ev.move ?_
  refine Seq.orG (D := [15, 16, 17, 18, 19, 20]) (d := 15) (t := 20) (k := 5) (hn := fun h15 => ?_) (hx := ?_)
  · repeat (first | refine Seq.gn rfl rfl rfl rfl ?_ | refine Seq.gu rfl rfl rfl ?_)
    refine Seq.p rfl Ev.pickT ?_
    exact Seq.nil ⟨rfl, (by repeat (first | with_reducible exact Off.refl | refine Off.upd ?_ rfl | exact Off.mix | refine Off.mix2 ?_ rfl)), Look.here⟩
  apply Exists.intro
  refine ⟨fun h15 => ?_, fun u20 => ?_⟩
  · try simp only [decide_eq_true_eq, decide_eq_false_iff_not, Bool.and_eq_true, Bool.or_eq_true, Bool.not_eq_true', Bool.not_eq_false', Bool.or_eq_false_iff, Bool.and_eq_false_imp] at h15
    refine Seq.gy rfl rfl rfl ?_
    refine Seq.p rfl (Ev.faB fd.api_Book_2) ?_
    refine Seq.gy rfl rfl rfl ?_
    refine Seq.p rfl (Ev.ldB sc.sl_api_Resting) ?_
    refine Seq.gy rfl rfl rfl ?_
    refine Seq.p rfl (Ev.lenSl sl.sl_api_Resting (hr := hs.r)) ?_
    refine Seq.gy rfl rfl rfl ?_
    refine Seq.p rfl Ev.gt ?_
    refine Seq.p rfl Ev.pickF ?_
    exact Seq.nil ⟨rfl, (by repeat (first | with_reducible exact Off.refl | refine Off.upd ?_ rfl | exact Off.mix | refine Off.mix2 ?_ rfl)), Look.here⟩
  refine Seq.p rfl Ev.move ?_
  refine Seq.orG (D := [21, 22, 23, 24, 25, 26, 27, 28, 29, 30, 31, 32, 33]) (d := 21) (t := 33) (k := 12) (hn := fun h21 => ?_) (hx := ?_)
  · repeat (first | refine Seq.gn rfl rfl rfl rfl ?_ | refine Seq.gu rfl rfl rfl ?_)
    refine Seq.p rfl Ev.pickT ?_
    exact Seq.nil ⟨rfl, (by repeat (first | with_reducible exact Off.refl | refine Off.upd ?_ rfl | exact Off.mix | refine Off.mix2 ?_ rfl)), Look.here⟩
  apply Exists.intro
  refine ⟨fun h21 => ?_, fun u33 => ?_⟩
  · try simp only [decide_eq_true_eq, decide_eq_false_iff_not, Bool.and_eq_true, Bool.or_eq_true, Bool.not_eq_true', Bool.not_eq_false', Bool.or_eq_false_iff, Bool.and_eq_false_imp] at h21
    refine Seq.gy rfl rfl rfl ?_
    refine Seq.p rfl (Ev.faB fd.api_Book_1) ?_
    refine Seq.gy rfl rfl rfl ?_
    refine Seq.p rfl (Ev.ldB sc.sl_api_Resting) ?_
    refine Seq.gy rfl rfl rfl ?_
    refine Seq.p rfl (Ev.lenSl sl.sl_api_Resting (hr := hb.r)) ?_
    refine Seq.gy rfl rfl rfl ?_
    refine Seq.p rfl (Ev.faB fd.api_Book_2) ?_
    refine Seq.gy rfl rfl rfl ?_
    refine Seq.p rfl (Ev.ldB sc.sl_api_Resting) ?_
    refine Seq.gy rfl rfl rfl ?_
    refine Seq.p rfl (Ev.lenSl sl.sl_api_Resting (hr := hs.r)) ?_
    refine Seq.gy rfl rfl rfl ?_
    refine Seq.p rfl Ev.add ?_
    refine Seq.gy rfl rfl rfl ?_
    refine Seq.p rfl (Ev.faB fd.api_Book_0) ?_
    refine Seq.gy rfl rfl rfl ?_
    refine Seq.p rfl (Ev.faB fd.api_Config_0) ?_
    refine Seq.gy rfl rfl rfl ?_
    refine Seq.p rfl (Ev.ldB sc.int) ?_
    refine Seq.gy rfl rfl rfl ?_
    refine Seq.p rfl Ev.gt ?_
    refine Seq.p rfl Ev.pickF ?_
    exact Seq.nil ⟨rfl, (by repeat (first | with_reducible exact Off.refl | refine Off.upd ?_ rfl | exact Off.mix | refine Off.mix2 ?_ rfl)), Look.here⟩
  refine Seq.nil ?_
  first | refine JC.c (ht := fun c33 => ?_) (hf := fun c33 => ?_) | refine JC.cb (ht := fun c33 => ?_) (hf := fun c33 => ?_)
  · -- then_t33
    refine JC.rs ?_
    refine Seq.p rfl Ev.assign ?_
    refine Seq.nil ?_
    refine JC.ret ?_
    -- return 0
    show retQ _ _ _ _ _ _ _ _
    refine ret1 (hp := Part.nil _) (hpost := ?_)
    have hn : ¬ okRef b := by
      rintro ⟨h1, h2, h3, h4, _⟩
      simp only [Bool.or_eq_true, Bool.not_eq_true', decide_eq_true_eq, h1] at c33
      rcases c33 with ((c33 | c33) | c33) | c33
      · cases c33
      · omega
      · omega
      · omega
    rw [validE, if_neg (fun h => hn ((okRef_iff b).2 h))]
  · -- else_t33
    simp only [Bool.or_eq_false_iff, Bool.not_eq_false', decide_eq_false_iff_not] at c33
    have hcf := cfgB_iff.1 c33.1.1.1
    refine JC.skip ?_
    refine JC.as mixed ?_
    refine Any.p 1 rfl (by kernel_rfl) (by kernel_rfl) (by kernel_rfl) rfl (Ev.faB fd.api_Book_1) ?_
    refine Any.p 2 rfl (by kernel_rfl) (by kernel_rfl) (by kernel_rfl) rfl (Ev.ldB sc.sl_api_Resting) ?_
    refine Any.p 4 rfl (by kernel_rfl) (by kernel_rfl) (by kernel_rfl) rfl (Ev.faB fd.api_Book_2) ?_
    refine Any.p 5 rfl (by kernel_rfl) (by kernel_rfl) (by kernel_rfl) rfl (Ev.ldB sc.sl_api_Resting) ?_
    refine Any.one 0 rfl (by kernel_rfl) ?_
    refine Seq.buildSlN [] (hsl := sl.sl_api_Resting) (hz := z.api_Resting) (k := ?_); intro b34
    refine Seq.re (fun w h => Upd.boxOwn h (n := 0) (size := 7) At.z rfl (by omega)) ?_
    refine Seq.nil ⟨(by repeat (first | exact Part.refl _ | exact Part.nil _ | apply Part.here | apply Part.skip)), ?_⟩
    refine Any.one 3 rfl (by kernel_rfl) ?_
    refine Seq.append (hsl := sl.sl_api_Resting) (he := el.api_Resting) (hsrc := fun w' hw => Src.rsl sl.sl_api_Resting (hb.up hw) (by omega) restOne) (k := ?_); intro A37 c37
    rw [Nat.zero_add, List.nil_append]
    refine Seq.nil ⟨(by repeat (first | exact Part.refl _ | exact Part.nil _ | apply Part.here | apply Part.skip)), ?_⟩
    refine Any.one 6 rfl (by kernel_rfl) ?_
    refine Seq.append (hsl := sl.sl_api_Resting) (he := el.api_Resting) (hsrc := fun w' hw => Src.rsl sl.sl_api_Resting (hs.up hw) (by omega) restOne) (k := ?_); intro A40 c40
    rw [← List.flatMap_append, ← List.length_append]
    refine Seq.nil ⟨(by repeat (first | exact Part.refl _ | exact Part.nil _ | apply Part.here | apply Part.skip)), ?_⟩
    refine Any.p 7 rfl (by kernel_rfl) (by kernel_rfl) (by kernel_rfl) rfl Ev.assign ?_
    refine Any.done (by kernel_rfl) ?_
    refine JC.seq ?_
    refine JC.rs ?_
    refine Seq.p rfl Ev.assign ?_
    refine Seq.nil ?_
    refine JC.blk ?_
    have hal : (b.buys ++ b.sells).length = b.buys.length + b.sells.length := List.length_append
    generalize hL : b.buys ++ b.sells = L at hal
    have hLs : L.length ≤ 4096 := by omega
    refine JC.loop (α := Nat) (I := fun i e1 H1 => Has [2, 4, 41, 42, 43, 44, 45, 46, 47, 48, 49, 50, 51, 52, 53, 54] [(4, .int .i64 (i : Int))] _ e1 ∧ H1 = [.own 33 7 (.slice A40 L.length c40) L.length (L.flatMap Resting.enc), .box b1 27 (bookV b (.slice Ab b.buys.length cb) (.slice As b.sells.length cs))] ∧ i ≤ L.length ∧ ∀ i' < i, (L[i']!).can b.high) (μ := fun i => L.length - i) 0 ⟨Has.mk Off.refl (allLook_cons (by repeat (first | exact Look.here | apply Look.there (hne := rfl) | exact Look.const | apply Look.mix rfl | exact Look.arg0 | apply Look.args | exact Look.func)) allLook_nil), rfl, by omega, by omega⟩ ?_
    rintro i _ _ ⟨⟨u, rfl⟩, rfl, hi, hok⟩; dsimp only [setL]
    refine JC.seq ?_
    refine JC.rs ?_
    refine Seq.p rfl Ev.move ?_
    refine Seq.p rfl Ev.move ?_
    refine Seq.p rfl (Ev.lenSl sl.sl_api_Resting (hr := RAt.own (enc := Resting.enc) (xs := L))) ?_
    refine Seq.p rfl Ev.lt ?_
    refine Seq.nil ?_
    first | refine JC.c (ht := fun c44 => ?_) (hf := fun c44 => ?_) | refine JC.cb (ht := fun c44 => ?_) (hf := fun c44 => ?_)
    · -- then_t44
      have hi2 : i < L.length := by omega
      have hwo : (L[i]!).Wf := by
        have hm : L[i]! ∈ b.buys ++ b.sells := by rw [hL, getElem!_pos L i hi2]; exact List.getElem_mem hi2
        rcases List.mem_append.1 hm with h | h
        · exact wf.buys _ h
        · exact wf.sells _ h
      refine JC.skip ?_
      refine JC.seq ?_
      refine JC.blk ?_
      refine JC.qs mixed (by kernel_rfl) ?_
      refine Qui.p rfl Ev.move ?_
      refine Qui.p rfl Ev.move ?_
      refine Qui.p rfl (Ev.iaN sl.sl_api_Resting (hr := RAt.own (enc := Resting.enc) (xs := L))) ?_
      refine Qui.p rfl (Ev.ldEA ag.api_Resting (hr := RAt.own (enc := Resting.enc) (xs := L))) ?_
      refine Qui.p rfl (Ev.faB fd.api_Book_3) ?_
      refine Qui.p rfl (Ev.ldB sc.uint64) ?_
      refine Qui.call rfl (fun w hw => refOrder hwo) ?_
      refine Qui.p rfl Ev.not ?_
      refine Qui.nil ?_
      first | refine JC.c (ht := fun c54 => ?_) (hf := fun c54 => ?_) | refine JC.cb (ht := fun c54 => ?_) (hf := fun c54 => ?_)
      · -- then_t54
        have hn : ¬ okRef b := by
          rintro ⟨_, _, _, _, h5, _⟩
          rw [hL] at h5
          have := h5 i hi2
          rw [decide_eq_true this] at c54; cases c54
        refine JC.rs ?_
        refine Seq.p rfl Ev.assign ?_
        refine Seq.nil ?_
        refine JC.ret ?_
        -- return 1
        show retQ _ _ _ _ _ _ _ _
        refine ret1 (hp := Part.nil _) (hpost := ?_)
        rw [validE, if_neg (fun h => hn ((okRef_iff b).2 h))]
      · -- else_t54
        refine JC.skip ?_
        refine JC.reg ?_
        refine Seq.p rfl Ev.move ?_
        refine Seq.p rfl (by first | exact Ev.inc | exact Ev.add) ?_
        refine Seq.p rfl Ev.assign ?_
        refine Seq.nil ?_
        refine ⟨i + 1, _, Part.refl _, ⟨Has.mk (by repeat (first | refine Off.upd ?_ rfl | exact Off.mix | refine Off.mix2 ?_ rfl | exact Off.refl)) (allLook_cons (by repeat (first | exact Look.here | apply Look.there (hne := rfl) | exact Look.const | apply Look.mix rfl | exact Look.arg0 | apply Look.args | exact Look.func)) allLook_nil), rfl, by omega, ?_⟩, by omega⟩
        intro i' hi'
        by_cases h : i' = i
        · rw [h]; rw [Bool.not_eq_false', decide_eq_true_eq] at c54; exact c54
        · exact hok i' (by omega)
    · -- else_t44
      obtain rfl : i = L.length := by omega
      refine JC.exit ?_ -- 0
      refine JC.seq ?_
      refine JC.rs ?_
      refine Seq.p rfl Ev.move ?_
      refine Seq.callP rfl (fun w hw => refTwice (RAt.up (RAt.own (enc := Resting.enc) (xs := L)) hw)) ?_
      refine Seq.p rfl Ev.move ?_
      refine Seq.orG (D := [57, 58, 59, 60, 61, 62]) (d := 57) (t := 62) (k := 5) (hn := fun h57 => ?_) (hx := ?_)
      · repeat (first | refine Seq.gn rfl rfl rfl rfl ?_ | refine Seq.gu rfl rfl rfl ?_)
        refine Seq.p rfl Ev.pickT ?_
        exact Seq.nil ⟨rfl, (by repeat (first | with_reducible exact Off.refl | refine Off.upd ?_ rfl | exact Off.mix | refine Off.mix2 ?_ rfl)), Look.here⟩
      apply Exists.intro
      refine ⟨fun h57 => ?_, fun u62 => ?_⟩
      · try simp only [decide_eq_true_eq, decide_eq_false_iff_not, Bool.and_eq_true, Bool.or_eq_true, Bool.not_eq_true', Bool.not_eq_false', Bool.or_eq_false_iff, Bool.and_eq_false_imp] at h57
        refine Seq.gy rfl rfl rfl ?_
        refine Seq.p rfl (Ev.faB fd.api_Book_1) ?_
        refine Seq.gy rfl rfl rfl ?_
        refine Seq.p rfl (Ev.ldB sc.sl_api_Resting) ?_
        refine Seq.gy rfl rfl rfl ?_
        refine Seq.callP rfl (fun w hw => refSorted (hb.up hw)) ?_
        refine Seq.gy rfl rfl rfl ?_
        refine Seq.p rfl Ev.not ?_
        refine Seq.p rfl Ev.pickF ?_
        exact Seq.nil ⟨rfl, (by repeat (first | with_reducible exact Off.refl | refine Off.upd ?_ rfl | exact Off.mix | refine Off.mix2 ?_ rfl)), Look.here⟩
      refine Seq.p rfl Ev.move ?_
      refine Seq.orG (D := [63, 64, 65, 66, 67, 68]) (d := 63) (t := 68) (k := 5) (hn := fun h63 => ?_) (hx := ?_)
      · repeat (first | refine Seq.gn rfl rfl rfl rfl ?_ | refine Seq.gu rfl rfl rfl ?_)
        refine Seq.p rfl Ev.pickT ?_
        exact Seq.nil ⟨rfl, (by repeat (first | with_reducible exact Off.refl | refine Off.upd ?_ rfl | exact Off.mix | refine Off.mix2 ?_ rfl)), Look.here⟩
      apply Exists.intro
      refine ⟨fun h63 => ?_, fun u68 => ?_⟩
      · try simp only [decide_eq_true_eq, decide_eq_false_iff_not, Bool.and_eq_true, Bool.or_eq_true, Bool.not_eq_true', Bool.not_eq_false', Bool.or_eq_false_iff, Bool.and_eq_false_imp] at h63
        refine Seq.gy rfl rfl rfl ?_
        refine Seq.p rfl (Ev.faB fd.api_Book_2) ?_
        refine Seq.gy rfl rfl rfl ?_
        refine Seq.p rfl (Ev.ldB sc.sl_api_Resting) ?_
        refine Seq.gy rfl rfl rfl ?_
        refine Seq.callP rfl (fun w hw => refSorted (hs.up hw)) ?_
        refine Seq.gy rfl rfl rfl ?_
        refine Seq.p rfl Ev.not ?_
        refine Seq.p rfl Ev.pickF ?_
        exact Seq.nil ⟨rfl, (by repeat (first | with_reducible exact Off.refl | refine Off.upd ?_ rfl | exact Off.mix | refine Off.mix2 ?_ rfl)), Look.here⟩
      refine Seq.nil ?_
      first | refine JC.c (ht := fun c68 => ?_) (hf := fun c68 => ?_) | refine JC.cb (ht := fun c68 => ?_) (hf := fun c68 => ?_)
      · -- then_t68
        refine JC.rs ?_
        refine Seq.p rfl Ev.assign ?_
        refine Seq.nil ?_
        refine JC.ret ?_
        -- return 2
        show retQ _ _ _ _ _ _ _ _
        refine ret1 (hp := Part.nil _) (hpost := ?_)
        have hn : ¬ okRef b := by
          rintro ⟨_, _, _, _, _, h6, h7, h8, _⟩
          rw [hL] at h6
          rw [decide_eq_false h6, decide_eq_true h7, decide_eq_true h8] at c68; cases c68
        rw [validE, if_neg (fun h => hn ((okRef_iff b).2 h))]
      · -- else_t68
        simp only [Bool.or_eq_false_iff, Bool.not_eq_false', decide_eq_true_eq, decide_eq_false_iff_not] at c68
        refine JC.skip ?_
        refine JC.seq ?_
        refine JC.qs mixed (by kernel_rfl) ?_
        refine Qui.p rfl (Ev.faB fd.api_Book_1) ?_
        refine Qui.p rfl (Ev.ldB sc.sl_api_Resting) ?_
        refine Qui.p rfl (Ev.lenSl sl.sl_api_Resting (hr := hb.r)) ?_
        refine Qui.p rfl Ev.gt ?_
        refine Qui.p rfl Ev.move ?_
        refine Qui.andG (D := [73, 74, 75, 76, 77, 78]) (d := 73) (t := 78) (k := 5) (hn := fun h73 => ?_) (hx := ?_)
        · repeat (first | refine Qui.gn rfl rfl rfl rfl ?_ | refine Qui.gu rfl rfl rfl ?_)
          refine Qui.p rfl Ev.pickF ?_
          exact Qui.nil ⟨(by repeat (first | with_reducible exact Off.refl | refine Off.upd ?_ rfl | exact Off.mix | refine Off.mix2 ?_ rfl)), Look.here⟩
        apply Exists.intro
        refine ⟨fun h73 => ?_, fun u78 => ?_⟩
        · try simp only [decide_eq_true_eq, decide_eq_false_iff_not, Bool.and_eq_true, Bool.or_eq_true, Bool.not_eq_true', Bool.not_eq_false', Bool.or_eq_false_iff, Bool.and_eq_false_imp] at h73
          refine Qui.gy rfl rfl rfl ?_
          refine Qui.p rfl (Ev.faB fd.api_Book_2) ?_
          refine Qui.gy rfl rfl rfl ?_
          refine Qui.p rfl (Ev.ldB sc.sl_api_Resting) ?_
          refine Qui.gy rfl rfl rfl ?_
          refine Qui.p rfl (Ev.lenSl sl.sl_api_Resting (hr := hs.r)) ?_
          refine Qui.gy rfl rfl rfl ?_
          refine Qui.p rfl Ev.gt ?_
          refine Qui.p rfl Ev.pickT ?_
          exact Qui.nil ⟨(by repeat (first | with_reducible exact Off.refl | refine Off.upd ?_ rfl | exact Off.mix | refine Off.mix2 ?_ rfl)), Look.here⟩
        refine Qui.p rfl Ev.move ?_
        refine Qui.andG (D := [79, 80, 81, 82, 83, 84, 85, 86, 87, 88, 89, 90, 91]) (d := 79) (t := 91) (k := 12) (hn := fun h79 => ?_) (hx := ?_)
        · repeat (first | refine Qui.gn rfl rfl rfl rfl ?_ | refine Qui.gu rfl rfl rfl ?_)
          refine Qui.p rfl Ev.pickF ?_
          exact Qui.nil ⟨(by repeat (first | with_reducible exact Off.refl | refine Off.upd ?_ rfl | exact Off.mix | refine Off.mix2 ?_ rfl)), Look.here⟩
        apply Exists.intro
        refine ⟨fun h79 => ?_, fun u91 => ?_⟩
        · try simp only [decide_eq_true_eq, decide_eq_false_iff_not, Bool.and_eq_true, Bool.or_eq_true, Bool.not_eq_true', Bool.not_eq_false', Bool.or_eq_false_iff, Bool.and_eq_false_imp] at h79
          refine Qui.gy rfl rfl rfl ?_
          refine Qui.p rfl (Ev.faB fd.api_Book_1) ?_
          refine Qui.gy rfl rfl rfl ?_
          refine Qui.p rfl (Ev.ldB sc.sl_api_Resting) ?_
          refine Qui.gy rfl rfl rfl ?_
          refine Qui.p rfl (Ev.iaSl sl.sl_api_Resting (hr := hb.r) (hi := by omega)) ?_
          refine Qui.gy rfl rfl rfl ?_
          refine Qui.p rfl (Ev.fa fd.api_Resting_3) ?_
          refine Qui.gy rfl rfl rfl ?_
          refine Qui.p rfl (Ev.ldE sc.int (hr := hb.r)) ?_
          refine Qui.gy rfl rfl rfl ?_
          refine Qui.p rfl (Ev.faB fd.api_Book_2) ?_
          refine Qui.gy rfl rfl rfl ?_
          refine Qui.p rfl (Ev.ldB sc.sl_api_Resting) ?_
          refine Qui.gy rfl rfl rfl ?_
          refine Qui.p rfl (Ev.iaSl sl.sl_api_Resting (hr := hs.r) (hi := by omega)) ?_
          refine Qui.gy rfl rfl rfl ?_
          refine Qui.p rfl (Ev.fa fd.api_Resting_3) ?_
          refine Qui.gy rfl rfl rfl ?_
          refine Qui.p rfl (Ev.ldE sc.int (hr := hs.r)) ?_
          refine Qui.gy rfl rfl rfl ?_
          refine Qui.p rfl Ev.ge ?_
          refine Qui.p rfl Ev.pickT ?_
          exact Qui.nil ⟨(by repeat (first | with_reducible exact Off.refl | refine Off.upd ?_ rfl | exact Off.mix | refine Off.mix2 ?_ rfl)), Look.here⟩
        refine Qui.nil ?_
        first | refine JC.c (ht := fun c91 => ?_) (hf := fun c91 => ?_) | refine JC.cb (ht := fun c91 => ?_) (hf := fun c91 => ?_)
        · -- then_t91
          refine JC.rs ?_
          refine Seq.p rfl Ev.assign ?_
          refine Seq.nil ?_
          refine JC.ret ?_
          -- return 3
          show retQ _ _ _ _ _ _ _ _
          refine ret1 (hp := Part.nil _) (hpost := ?_)
          simp only [Int.toNat_zero, Bool.and_eq_true, decide_eq_true_eq] at c91
          have hn : ¬ b.ok := fun h => by
            have h1 := h.2.2.2 (by omega) (by omega)
            have h2 := c91.2
            omega
          rw [validE, if_neg hn]
        · -- else_t91
          refine JC.skip ?_
          refine JC.rs ?_
          refine Seq.p rfl Ev.assign ?_
          refine Seq.nil ?_
          refine JC.ret ?_
          -- return 4
          show retQ _ _ _ _ _ _ _ _
          refine ret1 (hp := Part.nil _) (hpost := ?_)
          simp only [Int.toNat_zero, Bool.and_eq_false_imp, decide_eq_true_eq, decide_eq_false_iff_not, Bool.and_eq_true] at c91
          have hn : okRef b := ⟨c33.1.1.1, by omega, by omega, by omega, by rw [hL]; exact hok, by rw [hL]; exact c68.1.1, c68.1.2, c68.2, fun h1 h2 => by have := c91 ⟨by omega, by omega⟩; omega⟩
          rw [validE, if_pos ((okRef_iff b).1 hn)]
end Go.Rx
