/- Which books can be: the program's Valid. -/
import Derived.Test.YtkmakbkchnibkaaV1
namespace Go.Rx
open Go Go.RowKit
set_option linter.unusedVariables false
set_option linter.unusedSimpArgs false
theorem cfgB_iff {c m : Int} : cfgB c m = true ↔ 1 ≤ c ∧ c ≤ 4096 ∧ 0 ≤ m ∧ m ≤ 3 := by
  simp only [cfgB, Bool.and_eq_true, decide_eq_true_eq]
  omega
def sideL (b : Book) (k : Nat) : List Resting := if k = 0 then b.buys else b.sells
def seenIds (b : Book) (k i : Nat) : List Int := (if k = 0 then [] else b.buys.map (·.id)) ++ ((sideL b k).take i).map (·.id)
def stepOK (b : Book) (k i : Nat) : Prop :=
  ((sideL b k)[i]!).can b.high ∧ (sideL b k)[i]!.id ∉ seenIds b k i ∧ (0 < i → betterB ((k + 1 : Nat) : Int) ((sideL b k)[i]!).price ((sideL b k)[i - 1]!).price = false)
instance (b : Book) (k i : Nat) : Decidable (stepOK b k i) := by unfold stepOK; infer_instance
def Book.ok (b : Book) : Prop :=
  cfgB b.cap b.meet = true ∧ (b.buys.length : Int) + b.sells.length ≤ b.cap ∧ (∀ k < 2, ∀ i < (sideL b k).length, stepOK b k i) ∧ (0 < b.buys.length → 0 < b.sells.length → b.buys[0]!.price < b.sells[0]!.price)
instance (b : Book) : Decidable b.ok := by unfold Book.ok; infer_instance
def validE (b : Book) : Int := if b.ok then 0 else 120
structure Book.Wf (b : Book) : Prop where
  buys : ∀ o ∈ b.buys, o.Wf
  sells : ∀ o ∈ b.sells, o.Wf
  cap : -9223372036854775808 ≤ b.cap ∧ b.cap ≤ 9223372036854775807
  meet : -9223372036854775808 ≤ b.meet ∧ b.meet ≤ 9223372036854775807
  high : 0 ≤ b.high ∧ b.high ≤ 18446744073709551615
  seq : 0 ≤ b.seq ∧ b.seq ≤ 18446744073709551615
def seenM (l : List Int) : List (Int × Value) := l.map fun i => (i, .bool true)
theorem seenM_get (l : List Int) (k : Int) : (aget (seenM l) k).getD (.bool false) = .bool (decide (k ∈ l)) := by
  induction l with
  | nil => simp [seenM, aget]
  | cons a r ih =>
    simp only [seenM, List.map_cons, aget]
    by_cases h : k = a
    · simp [h]
    · rw [if_neg h]
      have : (k ∈ a :: r) ↔ k ∈ r := by simp [h]
      rw [decide_eq_decide.2 this]
      exact ih
theorem seenM_put {l : List Int} {k : Int} (h : k ∉ l) : aput (seenM l) k (.bool true) = seenM (l ++ [k]) := by
  induction l with
  | nil => rfl
  | cons a r ih =>
    simp only [List.mem_cons, not_or] at h
    simp only [seenM, List.map_cons, aput, if_neg h.1, List.cons_append]
    congr 1
    exact ih h.2
theorem seenIds_snoc {b : Book} {k i : Nat} (hi : i < (sideL b k).length) : seenIds b k (i + 1) = seenIds b k i ++ [((sideL b k)[i]!).id] := by
  unfold seenIds
  rw [List.take_succ_eq_append_getElem hi, List.map_append, ← List.append_assoc, getElem!_pos _ i hi]
  rfl
theorem seenIds_next (b : Book) {k : Nat} (hk : k < 2) : k + 1 < 2 → seenIds b k (sideL b k).length = seenIds b (k + 1) 0 := by
  intro h
  obtain rfl : k = 0 := by omega
  simp [seenIds, sideL]
set_option maxHeartbeats 2000000 in
set_option maxRecDepth 100000 in
theorem rulesValid {w : World} {b : Book} {vb vs : Value} (hb : RSl Resting.enc 7 w [] vb b.buys) (hs : RSl Resting.enc 7 w [] vs b.sells) (wf : b.Wf) :
    Spec Go.Proofs.Try.prog 23 #[.agg (bookV b vb vs).toArray] w [] (fun u _ => u = .int .i64 (validE b)) := by
  have hb1 := hb.small
  have hs1 := hs.small
  obtain ⟨Ab, cb, rfl, _, _⟩ := hb.shape
  obtain ⟨As, cs, rfl, _, _⟩ := hs.shape
  generalize hvb : Value.slice Ab b.buys.length cb = vb at hb
  generalize hvs : Value.slice As b.sells.length cs = vs at hs
  subst hvb hvs
  refine Spec.enter (fn := Go.Proofs.Try.f23) (n := 109) [.agg (bookV b (.slice Ab b.buys.length cb) (.slice As b.sells.length cs)).toArray] Go.Proofs.Try.func23 (by kernel_rfl) rfl Go.Proofs.Try.ntmps23 Go.Proofs.Try.results23 rfl (Own.nil _) ?_
  refine JC.rs ?_
  refine Seq.box (cs := [_, _, _, _, _, _]) (k := ?_); intro b1
  refine Seq.p rfl Ev.assign ?_
  refine Seq.nil ?_
  refine JC.seq ?_
  refine JC.rs ?_
  refine Seq.p rfl (Ev.faB fd.api_Book_0) ?_
  refine Seq.p rfl (Ev.ldBPN [_, _] ag.api_Config) ?_
  refine Seq.callP rfl (fun w hw => rulesConf) ?_
  refine Seq.p rfl Ev.not ?_
  refine Seq.p rfl Ev.move ?_
  refine Seq.orG (D := [12, 13, 14, 15, 16, 17, 18, 19, 20]) (d := 12) (t := 20) (k := 8) (hn := fun h12 => ?_) (hx := ?_)
  · repeat (first | refine Seq.gn rfl rfl rfl rfl ?_ | refine Seq.gu rfl rfl rfl ?_)
    refine Seq.p rfl Ev.pickT ?_
    exact Seq.nil ⟨rfl, (by repeat (first | with_reducible exact Off.refl | refine Off.upd ?_ rfl | exact Off.mix | refine Off.mix2 ?_ rfl)), Look.here⟩
  apply Exists.intro
  refine ⟨fun h12 => ?_, fun u20 => ?_⟩
  · try simp only [decide_eq_true_eq, decide_eq_false_iff_not, Bool.and_eq_true, Bool.or_eq_true, Bool.not_eq_true', Bool.not_eq_false', Bool.or_eq_false_iff, Bool.and_eq_false_imp] at h12
    refine Seq.gy rfl rfl rfl ?_
    refine Seq.p rfl (Ev.faB fd.api_Book_1) ?_
    refine Seq.gy rfl rfl rfl ?_
    refine Seq.p rfl (Ev.ldB sc.sl_api_Resting) ?_
    refine Seq.gy rfl rfl rfl ?_
    refine Seq.p rfl (Ev.lenSl sl.sl_api_Resting (hr := hb.r)) ?_
    refine Seq.gy rfl rfl rfl ?_
    refine Seq.p rfl (Ev.faB fd.api_Book_0) ?_
    refine Seq.gy rfl rfl rfl ?_
    refine Seq.p rfl (Ev.faB fd.api_Config_0) ?_
    refine Seq.gy rfl rfl rfl ?_
    refine Seq.p rfl (Ev.ldB sc.int) ?_
    refine Seq.gy rfl rfl rfl ?_
    refine Seq.p rfl Ev.gt ?_
    refine Seq.p rfl Ev.pickF ?_
    exact Seq.nil ⟨rfl, (by repeat (first | with_reducible exact Off.refl | refine Off.upd ?_ rfl | exact Off.mix | refine Off.mix2 ?_ rfl)), Look.here⟩
  refine Seq.p rfl Ev.move ?_
  refine Seq.orG (D := [21, 22, 23, 24, 25, 26, 27, 28, 29, 30, 31, 32, 33]) (d := 21) (t := 33) (k := 12) (hn := fun h21 => ?_) (hx := ?_)
  · repeat (first | refine Seq.gn rfl rfl rfl rfl ?_ | refine Seq.gu rfl rfl rfl ?_)
    refine Seq.p rfl Ev.pickT ?_
    exact Seq.nil ⟨rfl, (by repeat (first | with_reducible exact Off.refl | refine Off.upd ?_ rfl | exact Off.mix | refine Off.mix2 ?_ rfl)), Look.here⟩
  apply Exists.intro
  refine ⟨fun h21 => ?_, fun u33 => ?_⟩
  · try simp only [decide_eq_true_eq, decide_eq_false_iff_not, Bool.and_eq_true, Bool.or_eq_true, Bool.not_eq_true', Bool.not_eq_false', Bool.or_eq_false_iff, Bool.and_eq_false_imp] at h21
    have hcf := cfgB_iff.1 h21.1
    refine Seq.gy rfl rfl rfl ?_
    refine Seq.p rfl (Ev.faB fd.api_Book_2) ?_
    refine Seq.gy rfl rfl rfl ?_
    refine Seq.p rfl (Ev.ldB sc.sl_api_Resting) ?_
    refine Seq.gy rfl rfl rfl ?_
    refine Seq.p rfl (Ev.lenSl sl.sl_api_Resting (hr := hs.r)) ?_
    refine Seq.gy rfl rfl rfl ?_
    refine Seq.p rfl (Ev.faB fd.api_Book_0) ?_
    refine Seq.gy rfl rfl rfl ?_
    refine Seq.p rfl (Ev.faB fd.api_Config_0) ?_
    refine Seq.gy rfl rfl rfl ?_
    refine Seq.p rfl (Ev.ldB sc.int) ?_
    refine Seq.gy rfl rfl rfl ?_
    refine Seq.p rfl (Ev.faB fd.api_Book_1) ?_
    refine Seq.gy rfl rfl rfl ?_
    refine Seq.p rfl (Ev.ldB sc.sl_api_Resting) ?_
    refine Seq.gy rfl rfl rfl ?_
    refine Seq.p rfl (Ev.lenSl sl.sl_api_Resting (hr := hb.r)) ?_
    refine Seq.gy rfl rfl rfl ?_
    refine Seq.p rfl Ev.sub ?_
    refine Seq.gy rfl rfl rfl ?_
    refine Seq.p rfl Ev.gt ?_
    refine Seq.p rfl Ev.pickF ?_
    exact Seq.nil ⟨rfl, (by repeat (first | with_reducible exact Off.refl | refine Off.upd ?_ rfl | exact Off.mix | refine Off.mix2 ?_ rfl)), Look.here⟩
  refine Seq.nil ?_
  first | refine JC.c (ht := fun c33 => ?_) (hf := fun c33 => ?_) | refine JC.cb (ht := fun c33 => ?_) (hf := fun c33 => ?_)
  · -- then_t33
    refine JC.rs ?_
    refine Seq.p rfl Ev.assign ?_
    refine Seq.nil ?_
    refine JC.ret ?_
    -- return 0
    show retQ _ _ _ _ _ _ _ _
    refine ret1 (hp := Part.nil _) (hpost := ?_)
    have hn : ¬ b.ok := by
      intro h
      have h1 := cfgB_iff.1 h.1
      have h2 := h.2.1
      simp only [Bool.or_eq_true, Bool.not_eq_true', decide_eq_true_eq, h.1] at c33
      rcases c33 with (c33 | c33) | c33
      · cases c33
      · omega
      · omega
    rw [validE, if_neg hn]
  · -- else_t33
    simp only [Bool.or_eq_false_iff, Bool.not_eq_false', decide_eq_false_iff_not] at c33
    have hcf := cfgB_iff.1 c33.1.1
    refine JC.skip ?_
    refine JC.rs ?_
    refine Seq.mkMap (κ := Int) (Value.int .u64) (k := ?_); intro b34
    refine Seq.p rfl Ev.assign ?_
    refine Seq.nil ?_
    refine JC.seq ?_
    refine JC.rs ?_
    refine Seq.p rfl (Ev.faB fd.api_Book_1) ?_
    refine Seq.p rfl (Ev.ldB sc.sl_api_Resting) ?_
    refine Seq.p rfl (Ev.faB fd.api_Book_2) ?_
    refine Seq.p rfl (Ev.ldB sc.sl_api_Resting) ?_
    refine Seq.buildSlN [_, _] (hsl := sl.sl_sl_api_Resting) (hz := z.sl_api_Resting) (k := ?_); intro b39
    refine Seq.p rfl (Ev.lenSl sl.sl_sl_api_Resting (hr := RAt.box (enc := fun v : Value => [v]) (xs := [.slice Ab b.buys.length cb, .slice As b.sells.length cs]))) ?_
    refine Seq.p rfl Ev.move ?_
    refine Seq.nil ?_
    refine JC.blk ?_
    generalize hV : [Value.slice Ab b.buys.length cb, .slice As b.sells.length cs] = V
    have hR : ∀ k, k < 2 → RSl Resting.enc 7 w [] V[k]! (sideL b k) := by
      intro k hk
      subst hV
      rcases k with _ | _ | k
      · exact hb
      · exact hs
      · omega
    have hW : ∀ k, ∀ o ∈ sideL b k, o.Wf := by
      intro k o ho
      unfold sideL at ho
      split at ho
      · exact wf.buys o ho
      · exact wf.sells o ho
    have hVl : V.length = 2 := by subst hV; rfl
    refine JC.loop (α := Nat) (I := fun k e1 H1 => Has [2, 4, 5, 6, 7, 41, 42, 43, 44, 45, 46, 47, 48, 49, 50, 51, 52, 53, 54, 55, 56, 57, 58, 59, 60, 61, 62, 63, 64, 65, 66, 67, 68, 69, 70, 71, 72, 73, 74, 75, 76, 77, 78, 79, 80, 81, 82, 83, 84, 85] [(41, .int .i64 (k : Int))] _ e1 ∧ (∃ sn, H1 = [.box b39 24 V, .mp b34 (Value.int .u64) (seenM sn), .box b1 27 (bookV b (.slice Ab b.buys.length cb) (.slice As b.sells.length cs))] ∧ (k < 2 → sn = seenIds b k 0)) ∧ k ≤ 2 ∧ ∀ k' < k, ∀ i < (sideL b k').length, stepOK b k' i) (μ := fun k => 2 - k) 0 ⟨Has.mk Off.refl (allLook_cons (by repeat (first | exact Look.here | apply Look.there (hne := rfl) | exact Look.const | apply Look.mix rfl | exact Look.arg0 | apply Look.args | exact Look.func)) allLook_nil), ⟨[], rfl, fun _ => rfl⟩, by omega, by omega⟩ ?_
    rintro k _ _ ⟨⟨u, rfl⟩, ⟨sn, rfl, hsn⟩, hk, hok⟩; dsimp only [setL]
    refine JC.rs ?_
    refine Seq.p rfl Ev.lt ?_
    refine Seq.nil ?_
    refine JC.seq ?_
    first | refine JC.c (ht := fun c42 => ?_) (hf := fun c42 => ?_) | refine JC.cb (ht := fun c42 => ?_) (hf := fun c42 => ?_)
    · -- then_t42
      have hk2 : k < 2 := by simp at c42; omega
      replace hsn := hsn hk2
      have hri := hR k hk2
      have hwi := hW k
      have hsm := hri.small
      generalize hvi : V[k]! = vi at hri
      have hnx := seenIds_next b hk2
      generalize hli : sideL b k = li at hri hsm hwi hnx
      refine JC.skip ?_
      refine JC.seq ?_
      refine JC.blk ?_
      refine JC.rs ?_
      refine Seq.p rfl Ev.move ?_
      refine Seq.p rfl (Ev.iaN sl.sl_sl_api_Resting (hr := RAt.box (enc := fun v : Value => [v]) (xs := V) (hcs := by subst hV; rfl) (hm := by rw [hVl]) (hs := by omega)) (hi := by omega)) ?_
      refine Seq.p rfl (Ev.ldE1 sc.sl_api_Resting (hr := RAt.box (enc := fun v : Value => [v]) (xs := V) (hcs := by subst hV; rfl) (hm := by rw [hVl]) (hs := by omega))) ?_
      rw [hvi]
      refine Seq.p rfl Ev.assign ?_
      refine Seq.p rfl Ev.assign ?_
      refine Seq.nil ?_
      refine JC.rs ?_
      refine Seq.p rfl Ev.move ?_
      refine Seq.p rfl (Ev.lenSl sl.sl_api_Resting (hr := hri.r)) ?_
      refine Seq.p rfl Ev.move ?_
      refine Seq.nil ?_
      refine JC.blk ?_
      refine JC.loop (α := Nat) (I := fun i e1 H1 => Has [2, 6, 7, 48, 49, 50, 51, 52, 53, 54, 55, 56, 57, 58, 59, 60, 61, 62, 63, 64, 65, 66, 67, 68, 69, 70, 71, 72, 73, 74, 75, 76, 77, 78, 79, 80, 81, 82, 83, 84] [(48, .int .i64 (i : Int))] _ e1 ∧ H1 = [.box b39 24 V, .mp b34 (Value.int .u64) (seenM (seenIds b k i)), .box b1 27 (bookV b (.slice Ab b.buys.length cb) (.slice As b.sells.length cs))] ∧ i ≤ li.length ∧ ∀ i' < i, stepOK b k i') (μ := fun i => li.length - i) 0 ⟨Has.mk Off.refl (allLook_cons (by repeat (first | exact Look.here | apply Look.there (hne := rfl) | exact Look.const | apply Look.mix rfl | exact Look.arg0 | apply Look.args | exact Look.func)) allLook_nil), by rw [← hsn], by omega, by omega⟩ ?_
      rintro i _ _ ⟨⟨u, rfl⟩, rfl, hi, hoi⟩; dsimp only [setL]
      refine JC.rs ?_
      refine Seq.p rfl Ev.lt ?_
      refine Seq.nil ?_
      refine JC.seq ?_
      first | refine JC.c (ht := fun c49 => ?_) (hf := fun c49 => ?_) | refine JC.cb (ht := fun c49 => ?_) (hf := fun c49 => ?_)
      · -- then_t49
        have hi2 : i < li.length := by simp at c49; omega
        have hwo : (li[i]!).Wf := hwi _ (by rw [getElem!_pos li i hi2]; exact List.getElem_mem hi2)
        refine JC.skip ?_
        refine JC.seq ?_
        refine JC.blk ?_
        refine JC.rs ?_
        refine Seq.p rfl Ev.move ?_
        refine Seq.p rfl (Ev.iaN sl.sl_api_Resting (hr := hri.r)) ?_
        refine Seq.p rfl (Ev.ldEA ag.api_Resting (hr := hri.r)) ?_
        refine Seq.alloc (cs := [_, _, _, _, _, _, _]) (hz := z.api_Resting) (k := ?_); intro b7
        refine Seq.p rfl Ev.assign ?_
        refine Seq.storeN [_, _, _, _, _, _, _] sz.api_Resting (k := ?_)
        refine Seq.nil ?_
        refine JC.seq ?_
        refine JC.qs mixed (by kernel_rfl) ?_
        refine Qui.p rfl (Ev.ldBA ag.api_Resting) ?_
        refine Qui.p rfl (Ev.faB fd.api_Book_3) ?_
        refine Qui.p rfl (Ev.ldB sc.uint64) ?_
        refine Qui.call rfl (fun w hw => rulesCan hwo) ?_
        refine Qui.p rfl Ev.not ?_
        refine Qui.p rfl Ev.move ?_
        refine Qui.orG (D := [58, 59, 60, 61, 62, 63]) (d := 58) (t := 63) (k := 5) (hn := fun h58 => ?_) (hx := ?_)
        · repeat (first | refine Qui.gn rfl rfl rfl rfl ?_ | refine Qui.gu rfl rfl rfl ?_)
          refine Qui.p rfl Ev.pickT ?_
          exact Qui.nil ⟨(by repeat (first | with_reducible exact Off.refl | refine Off.upd ?_ rfl | exact Off.mix | refine Off.mix2 ?_ rfl)), Look.here⟩
        apply Exists.intro
        refine ⟨fun h58 => ?_, fun u63 => ?_⟩
        · try simp only [decide_eq_true_eq, decide_eq_false_iff_not, Bool.and_eq_true, Bool.or_eq_true, Bool.not_eq_true', Bool.not_eq_false', Bool.or_eq_false_iff, Bool.and_eq_false_imp] at h58
          refine Qui.gy rfl rfl rfl ?_
          refine Qui.p rfl Ev.move ?_
          refine Qui.gy rfl rfl rfl ?_
          refine Qui.p rfl (Ev.faB fd.api_Resting_0) ?_
          refine Qui.gy rfl rfl rfl ?_
          refine Qui.p rfl (Ev.ldB sc.uint64) ?_
          refine Qui.gy rfl rfl rfl ?_
          refine Qui.p rfl (Ev.mapGetD (κ := Int) mp.m_uint64_bool (intKey .u64) z.bool) ?_
          rw [seenM_get]
          refine Qui.p rfl Ev.pickF ?_
          exact Qui.nil ⟨(by repeat (first | with_reducible exact Off.refl | refine Off.upd ?_ rfl | exact Off.mix | refine Off.mix2 ?_ rfl)), Look.here⟩
        refine Qui.p rfl Ev.move ?_
        refine Qui.orG (D := [64, 65, 66, 67, 68, 69, 70, 71, 72, 73, 74, 75, 76, 77, 78, 79, 80]) (d := 64) (t := 80) (k := 16) (hn := fun h64 => ?_) (hx := ?_)
        · repeat (first | refine Qui.gn rfl rfl rfl rfl ?_ | refine Qui.gu rfl rfl rfl ?_)
          refine Qui.p rfl Ev.pickT ?_
          exact Qui.nil ⟨(by repeat (first | with_reducible exact Off.refl | refine Off.upd ?_ rfl | exact Off.mix | refine Off.mix2 ?_ rfl)), Look.here⟩
        apply Exists.intro
        refine ⟨fun h64 => ?_, fun u80 => ?_⟩
        · try simp only [decide_eq_true_eq, decide_eq_false_iff_not, Bool.and_eq_true, Bool.or_eq_true, Bool.not_eq_true', Bool.not_eq_false', Bool.or_eq_false_iff, Bool.and_eq_false_imp] at h64
          refine Qui.gy rfl rfl rfl ?_
          refine Qui.p rfl Ev.move ?_
          refine Qui.gy rfl rfl rfl ?_
          refine Qui.p rfl Ev.gt ?_
          refine Qui.gy rfl rfl rfl ?_
          refine Qui.p rfl Ev.move ?_
          refine Qui.andG (D := [67, 68, 69, 70, 71, 72, 73, 74, 75, 76, 77, 78, 79]) (d := 67) (t := 79) (k := 12) (hn := fun h67 => ?_) (hx := ?_)
          · repeat (first | refine Qui.gn rfl rfl rfl rfl ?_ | refine Qui.gu rfl rfl rfl ?_)
            refine Qui.gy rfl rfl rfl ?_
            refine Qui.p rfl Ev.pickF ?_
            exact Qui.nil ⟨(by repeat (first | with_reducible exact Off.refl | refine Off.upd ?_ rfl | exact Off.mix | refine Off.mix2 ?_ rfl)), Look.here⟩
          apply Exists.intro
          refine ⟨fun h67 => ?_, fun u79 => ?_⟩
          · try simp only [decide_eq_true_eq, decide_eq_false_iff_not, Bool.and_eq_true, Bool.or_eq_true, Bool.not_eq_true', Bool.not_eq_false', Bool.or_eq_false_iff, Bool.and_eq_false_imp] at h67
            refine Qui.gy rfl rfl rfl ?_
            refine Qui.p rfl Ev.move ?_
            refine Qui.gy rfl rfl rfl ?_
            refine Qui.p rfl (by first | exact Ev.inc | exact Ev.add) ?_
            refine Qui.gy rfl rfl rfl ?_
            refine Qui.p rfl (Ev.faB fd.api_Resting_3) ?_
            refine Qui.gy rfl rfl rfl ?_
            refine Qui.p rfl (Ev.ldB sc.int) ?_
            refine Qui.gy rfl rfl rfl ?_
            refine Qui.p rfl Ev.move ?_
            refine Qui.gy rfl rfl rfl ?_
            refine Qui.p rfl Ev.move ?_
            refine Qui.gy rfl rfl rfl ?_
            refine Qui.p rfl Ev.dec ?_
            refine Qui.gy rfl rfl rfl ?_
            refine Qui.p rfl (Ev.iaN sl.sl_api_Resting (hr := hri.r)) ?_
            refine Qui.gy rfl rfl rfl ?_
            refine Qui.p rfl (Ev.fa fd.api_Resting_3) ?_
            refine Qui.gy rfl rfl rfl ?_
            refine Qui.p rfl (Ev.ldE sc.int (hr := hri.r)) ?_
            refine Qui.gy rfl rfl rfl ?_
            refine Qui.call rfl (fun w hw => rulesBetter) ?_
            refine Qui.gy rfl rfl rfl ?_
            refine Qui.p rfl Ev.pickT ?_
            exact Qui.nil ⟨(by repeat (first | with_reducible exact Off.refl | refine Off.upd ?_ rfl | exact Off.mix | refine Off.mix2 ?_ rfl)), Look.here⟩
          refine Qui.p rfl Ev.pickF ?_
          exact Qui.nil ⟨(by repeat (first | with_reducible exact Off.refl | refine Off.upd ?_ rfl | exact Off.mix | refine Off.mix2 ?_ rfl)), Look.here⟩
        refine Qui.nil ?_
        first | refine JC.c (ht := fun c80 => ?_) (hf := fun c80 => ?_) | refine JC.cb (ht := fun c80 => ?_) (hf := fun c80 => ?_)
        · -- then_t80
          have hst : ¬ stepOK b k i := by
            intro h
            unfold stepOK at h
            rw [hli] at h
            obtain ⟨g1, g2, g3⟩ := h
            simp only [Bool.or_eq_true, Bool.and_eq_true, Bool.not_eq_true', decide_eq_true_eq, decide_eq_false_iff_not] at c80
            rcases c80 with (c80 | c80) | c80
            · exact c80 g1
            · exact g2 c80
            · have := g3 (by omega); rw [this] at c80; exact absurd c80.2 (by decide)
          refine JC.rs ?_
          refine Seq.p rfl Ev.assign ?_
          refine Seq.nil ?_
          refine JC.ret ?_
          -- return 1
          show retQ _ _ _ _ _ _ _ _
          refine ret1 (hp := Part.nil _) (hpost := ?_)
          have hn : ¬ b.ok := fun h => hst (h.2.2.1 k hk2 i (by rw [hli]; exact hi2))
          rw [validE, if_neg hn]
        · -- else_t80
          simp only [Bool.or_eq_false_iff, Bool.not_eq_false', Bool.and_eq_false_imp, decide_eq_true_eq, decide_eq_false_iff_not] at c80
          have hst : stepOK b k i := by
            unfold stepOK
            rw [hli]
            exact ⟨c80.1.1, c80.1.2, fun h => c80.2 (by omega)⟩
          refine JC.skip ?_
          refine JC.reg ?_
          refine Seq.p rfl Ev.move ?_
          refine Seq.p rfl (Ev.faB fd.api_Resting_0) ?_
          refine Seq.p rfl (Ev.ldB sc.uint64) ?_
          refine Seq.mapPut (κ := Int) mp.m_uint64_bool (intKey .u64) (has := seenM_put c80.1.2) (kk := ?_)
          refine Seq.nil ?_
          refine JC.reg ?_
          refine Seq.p rfl (by first | exact Ev.inc | exact Ev.add) ?_
          refine Seq.p rfl Ev.move ?_
          refine Seq.nil ?_
          refine ⟨i + 1, _, Part.skip (Part.refl _), ⟨Has.mk (by repeat (first | refine Off.upd ?_ rfl | exact Off.mix | refine Off.mix2 ?_ rfl | exact Off.refl)) (allLook_cons (by repeat (first | exact Look.here | apply Look.there (hne := rfl) | exact Look.const | apply Look.mix rfl | exact Look.arg0 | apply Look.args | exact Look.func)) allLook_nil), ?_, by omega, ?_⟩, by omega⟩
          · rw [seenIds_snoc (by rw [hli]; exact hi2), hli]; rfl
          · intro i' hi'
            by_cases h : i' = i
            · rw [h]; exact hst
            · exact hoi i' (by omega)
      · -- else_t49
        obtain rfl : i = li.length := by omega
        refine JC.exit ?_ -- 2
        refine JC.reg ?_
        refine Seq.p rfl (by first | exact Ev.inc | exact Ev.add) ?_
        refine Seq.p rfl Ev.move ?_
        refine Seq.nil ?_
        refine ⟨k + 1, _, Part.refl _, ⟨Has.mk (by repeat (first | refine Off.upd ?_ rfl | exact Off.mix | refine Off.mix2 ?_ rfl | exact Off.refl)) (allLook_cons (by repeat (first | exact Look.here | apply Look.there (hne := rfl) | exact Look.const | apply Look.mix rfl | exact Look.arg0 | apply Look.args | exact Look.func)) allLook_nil), ⟨_, rfl, fun h => hnx h⟩, by omega, ?_⟩, by omega⟩
        intro k' hk'
        by_cases h : k' = k
        · rw [h, hli]; exact hoi
        · exact hok k' (by omega)
    · -- else_t42
      obtain rfl : k = 2 := by omega
      refine JC.exit ?_ -- 0
      refine JC.seq ?_
      refine JC.qs mixed (by kernel_rfl) ?_
      refine Qui.p rfl (Ev.faB fd.api_Book_1) ?_
      refine Qui.p rfl (Ev.ldB sc.sl_api_Resting) ?_
      refine Qui.p rfl (Ev.lenSl sl.sl_api_Resting (hr := hb.r)) ?_
      refine Qui.p rfl Ev.gt ?_
      refine Qui.p rfl Ev.move ?_
      refine Qui.andG (D := [90, 91, 92, 93, 94, 95]) (d := 90) (t := 95) (k := 5) (hn := fun h90 => ?_) (hx := ?_)
      · repeat (first | refine Qui.gn rfl rfl rfl rfl ?_ | refine Qui.gu rfl rfl rfl ?_)
        refine Qui.p rfl Ev.pickF ?_
        exact Qui.nil ⟨(by repeat (first | with_reducible exact Off.refl | refine Off.upd ?_ rfl | exact Off.mix | refine Off.mix2 ?_ rfl)), Look.here⟩
      apply Exists.intro
      refine ⟨fun h90 => ?_, fun u95 => ?_⟩
      · try simp only [decide_eq_true_eq, decide_eq_false_iff_not, Bool.and_eq_true, Bool.or_eq_true, Bool.not_eq_true', Bool.not_eq_false', Bool.or_eq_false_iff, Bool.and_eq_false_imp] at h90
        refine Qui.gy rfl rfl rfl ?_
        refine Qui.p rfl (Ev.faB fd.api_Book_2) ?_
        refine Qui.gy rfl rfl rfl ?_
        refine Qui.p rfl (Ev.ldB sc.sl_api_Resting) ?_
        refine Qui.gy rfl rfl rfl ?_
        refine Qui.p rfl (Ev.lenSl sl.sl_api_Resting (hr := hs.r)) ?_
        refine Qui.gy rfl rfl rfl ?_
        refine Qui.p rfl Ev.gt ?_
        refine Qui.p rfl Ev.pickT ?_
        exact Qui.nil ⟨(by repeat (first | with_reducible exact Off.refl | refine Off.upd ?_ rfl | exact Off.mix | refine Off.mix2 ?_ rfl)), Look.here⟩
      refine Qui.p rfl Ev.move ?_
      refine Qui.andG (D := [96, 97, 98, 99, 100, 101, 102, 103, 104, 105, 106, 107, 108]) (d := 96) (t := 108) (k := 12) (hn := fun h96 => ?_) (hx := ?_)
      · repeat (first | refine Qui.gn rfl rfl rfl rfl ?_ | refine Qui.gu rfl rfl rfl ?_)
        refine Qui.p rfl Ev.pickF ?_
        exact Qui.nil ⟨(by repeat (first | with_reducible exact Off.refl | refine Off.upd ?_ rfl | exact Off.mix | refine Off.mix2 ?_ rfl)), Look.here⟩
      apply Exists.intro
      refine ⟨fun h96 => ?_, fun u108 => ?_⟩
      · try simp only [decide_eq_true_eq, decide_eq_false_iff_not, Bool.and_eq_true, Bool.or_eq_true, Bool.not_eq_true', Bool.not_eq_false', Bool.or_eq_false_iff, Bool.and_eq_false_imp] at h96
        refine Qui.gy rfl rfl rfl ?_
        refine Qui.p rfl (Ev.faB fd.api_Book_1) ?_
        refine Qui.gy rfl rfl rfl ?_
        refine Qui.p rfl (Ev.ldB sc.sl_api_Resting) ?_
        refine Qui.gy rfl rfl rfl ?_
        refine Qui.p rfl (Ev.iaSl sl.sl_api_Resting (hr := hb.r) (hi := by omega)) ?_
        refine Qui.gy rfl rfl rfl ?_
        refine Qui.p rfl (Ev.fa fd.api_Resting_3) ?_
        refine Qui.gy rfl rfl rfl ?_
        refine Qui.p rfl (Ev.ldE sc.int (hr := hb.r)) ?_
        refine Qui.gy rfl rfl rfl ?_
        refine Qui.p rfl (Ev.faB fd.api_Book_2) ?_
        refine Qui.gy rfl rfl rfl ?_
        refine Qui.p rfl (Ev.ldB sc.sl_api_Resting) ?_
        refine Qui.gy rfl rfl rfl ?_
        refine Qui.p rfl (Ev.iaSl sl.sl_api_Resting (hr := hs.r) (hi := by omega)) ?_
        refine Qui.gy rfl rfl rfl ?_
        refine Qui.p rfl (Ev.fa fd.api_Resting_3) ?_
        refine Qui.gy rfl rfl rfl ?_
        refine Qui.p rfl (Ev.ldE sc.int (hr := hs.r)) ?_
        refine Qui.gy rfl rfl rfl ?_
        refine Qui.p rfl Ev.ge ?_
        refine Qui.p rfl Ev.pickT ?_
        exact Qui.nil ⟨(by repeat (first | with_reducible exact Off.refl | refine Off.upd ?_ rfl | exact Off.mix | refine Off.mix2 ?_ rfl)), Look.here⟩
      refine Qui.nil ?_
      first | refine JC.c (ht := fun c108 => ?_) (hf := fun c108 => ?_) | refine JC.cb (ht := fun c108 => ?_) (hf := fun c108 => ?_)
      · -- then_t108
        refine JC.rs ?_
        refine Seq.p rfl Ev.assign ?_
        refine Seq.nil ?_
        refine JC.ret ?_
        -- return 2
        show retQ _ _ _ _ _ _ _ _
        refine ret1 (hp := Part.nil _) (hpost := ?_)
        simp only [Int.toNat_zero, Bool.and_eq_true, decide_eq_true_eq] at c108
        have hn : ¬ b.ok := fun h => by
          have h1 := h.2.2.2 (by omega) (by omega)
          have h2 := c108.2
          omega
        rw [validE, if_neg hn]
      · -- else_t108
        refine JC.skip ?_
        refine JC.rs ?_
        refine Seq.p rfl Ev.assign ?_
        refine Seq.nil ?_
        refine JC.ret ?_
        -- return 3
        show retQ _ _ _ _ _ _ _ _
        refine ret1 (hp := Part.nil _) (hpost := ?_)
        simp only [Int.toNat_zero, Bool.and_eq_false_imp, decide_eq_true_eq, decide_eq_false_iff_not, Bool.and_eq_true] at c108
        have hn : b.ok := ⟨c33.1.1, by omega, hok, fun h1 h2 => by have := c108 ⟨by omega, by omega⟩; omega⟩
        rw [validE, if_pos hn]
end Go.Rx
