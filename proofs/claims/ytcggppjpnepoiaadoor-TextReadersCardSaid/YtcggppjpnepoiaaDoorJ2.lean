/- The law bourselaw03.TextDecimals gives true. -/
import Derived.Test.YtcggppjpnepoiaaDoorJ1
namespace Go.Rx
open Go Go.RowKit Go.Lib Go.Proofs.YtcggppjpnepoiaaDoor
set_option linter.unusedVariables false
theorem parse_append {M : Nat} {c : UInt8} : ∀ (l : List UInt8) (acc a : Nat), parseUintM M acc l = .ok a → parseUintM M acc (l ++ [c]) = parseUintM M a [c]
  | [], acc, a, h => by
    simp only [parseUintM] at h
    cases h
    rfl
  | x :: r, acc, a, h => by
    simp only [parseUintM, List.cons_append] at h ⊢
    split at h
    · split at h
      · cases h
      · split at h
        · cases h
        · rename_i h1 h2 h3
          rw [if_pos h1, if_neg h2, if_neg h3, parse_append r _ a h]
          rfl
    · cases h
theorem parse_dec : ∀ (u : Nat), u ≤ 18446744073709551615 → parseUintM 18446744073709551615 0 (decDigits u) = .ok u := by
  intro u
  induction u using Nat.strongRecOn with
  | _ u ih =>
    intro hu
    have hone : ∀ (a d : Nat), d ≤ 9 → a * 10 + d ≤ 18446744073709551615 → parseUintM 18446744073709551615 a [UInt8.ofNat (48 + d)] = .ok (a * 10 + d) := by
      intro a d hd ha
      have hc : (UInt8.ofNat (48 + d)).toNat = 48 + d := by rw [UInt8.toNat_ofNat']; omega
      simp only [parseUintM, hc]
      rw [if_pos (by omega), if_neg (by omega), if_neg (by omega)]
      congr 1
      omega
    by_cases h : u < 10
    · rw [decDigits_one h]
      have := hone 0 u (by omega) (by omega)
      simpa using this
    · rw [decDigits, dif_neg h, parse_append _ 0 (u / 10) (ih (u / 10) (by omega) (by omega)), hone (u / 10) (u % 10) (by omega) (by omega)]
      congr 1
      omega
def decS (n : Nat) : ByteArray := ⟨(decDigits n).toArray⟩
theorem decS_list (n : Nat) : (decS n).data.toList = decDigits n := by simp [decS]
theorem numOf_dec {n : Nat} (h : n ≤ 18446744073709551615) : numOf (decS n) = some n := by
  have e64 : (2 : Nat) ^ 64 - 1 = 18446744073709551615 := by decide
  unfold numOf
  rw [decS_list]
  have hne : decDigits n ≠ [] := by
    intro h0
    have := decDigits_length n
    have h1 := nDigits_pos n
    rw [h0] at this
    simp at this
    omega
  unfold parseUintB
  rw [if_neg hne, e64, parse_dec n h]
  simp [okOf]
theorem numOf_some {s : ByteArray} {k : Nat} (h : numOf s = some k) : s = decS k ∧ k ≤ 18446744073709551615 := by
  have e64 : (2 : Nat) ^ 64 - 1 = 18446744073709551615 := by decide
  unfold numOf at h
  split at h
  · rename_i u hu
    split at h
    · rename_i hd
      cases h
      refine ⟨?_, ?_⟩
      · unfold decS
        rw [hd]
      · cases hq : parseUintB 64 s.data.toList with
        | ok u' =>
          rw [hq] at hu
          simp only [okOf, Option.some.injEq] at hu
          have := parseUintB_le hq
          omega
        | _ => rw [hq] at hu; cases hu
    · cases h
  · cases h
theorem decS_size (n : Nat) : (decS n).size = (decDigits n).length := by
  have : (decS n).size = (decS n).data.toList.length := by simp
  rw [this, decS_list]
theorem decS_facts {n : Nat} (h : n ≤ 18446744073709551615) : 1 ≤ (decS n).size ∧ (decS n).size ≤ 20 ∧ (1 < (decS n).size → bAt (decS n) (Int.toNat 0) ≠ 48) := by
  rw [decS_size]
  refine ⟨by rw [decDigits_length]; exact nDigits_pos n, dec_len (by omega), fun hl => ?_⟩
  have h1 : 1 ≤ n := by
    rcases Nat.eq_zero_or_pos n with h0 | h0
    · rw [h0, decDigits_one (by omega)] at hl
      simp at hl
    · exact h0
  obtain ⟨c, r, he, hc⟩ := dec_head n h1
  have hb : bAt (decS n) (Int.toNat 0) = (c.toNat : Int) := by
    unfold bAt
    rw [decS_list, he]
    rfl
  rw [hb]
  omega
theorem numV_some {s : ByteArray} {k : Nat} (h : numOf s = some k) : numV (valueF [⟨7, s⟩] 7) = .tuple #[.int .u64 (k : Int), .int .i64 0] := by
  have e1 : valueF [⟨7, s⟩] 7 = some s := rfl
  rw [e1]
  simp only [numV, h]
theorem numV_none {s : ByteArray} (h : numOf s = none) : numV (valueF [⟨7, s⟩] 7) = .tuple #[.int .u64 0, .int .i64 31] := by
  have e1 : valueF [⟨7, s⟩] 7 = some s := rfl
  rw [e1]
  simp only [numV, h]
theorem one_sz {s : ByteArray} (h : s.size ≤ 281474976710656) : ∀ t ∈ [(⟨7, s⟩ : Tg)], t.value.size ≤ 281474976710656 := by
  intro t ht
  rw [List.mem_singleton.1 ht]
  exact h
set_option maxHeartbeats 2000000 in
set_option maxRecDepth 100000 in
theorem lawDecNone {w : World} {n : Nat} {o : ByteArray} (hn : n ≤ 18446744073709551615) (ho : o.size ≤ 281474976710656) (hL : Laid w) (hq : numOf o = none) :
    Spec Go.Proofs.Tryd.prog 4 #[.int .u64 (n : Int), .string o] w [] (fun u _ => u = .bool true) := by
  have hD : ∀ {w : World}, Laid w → Spec Go.Proofs.Tryd.prog 15 #[.int .u64 (n : Int)] w [] (fun v _ => v = .string (decS n)) := fun hL => textDecimal (by omega) hL
  have hN := numV_some (numOf_dec hn)
  obtain ⟨z1, z2, z3⟩ := decS_facts hn
  generalize hs : decS n = s at hD hN z1 z2 z3
  have hO := numV_none hq
  have hne : ¬ o = s := by
    rintro rfl
    rw [← hs, numOf_dec hn] at hq
    cases hq
  refine Spec.enter (fn := Go.Proofs.Tryd.f4) (n := 79) [.int .u64 (n : Int), .string o] Go.Proofs.Tryd.func4 (by kernel_rfl) rfl Go.Proofs.Tryd.ntmps4 Go.Proofs.Tryd.results4 rfl (Own.nil _) ?_
  refine JC.rs ?_
  refine Seq.p rfl Ev.assign ?_
  refine Seq.nil ?_
  refine JC.rs ?_
  refine Seq.p rfl Ev.move ?_
  refine Seq.callP rfl (fun w hw => hD (hL.upd hw)) ?_
  refine Seq.p rfl Ev.assign ?_
  refine Seq.nil ?_
  refine JC.rs ?_
  refine Seq.p rfl Ev.move ?_
  refine Seq.p rfl (Ev.buildN [_, _] pl.api_Tag z.api_Tag) ?_
  refine Seq.buildSlN _ (hsl := sl.sl_api_Tag) (hz := z.api_Tag) (k := ?_); intro b7
  refine Seq.re (fun w h => Upd.boxOwn h (n := 1) (size := 2) At.z rfl (by omega)) ?_
  refine Seq.callP rfl (fun w hw => hN ▸ textNumber (RAt.up (RAt.own (enc := Tg.enc) (xs := [⟨7, s⟩])) hw) (one_sz (by omega)) (hL.upd hw)) ?_
  refine Seq.p rfl Ev.move ?_
  refine Seq.p rfl Ev.extract ?_
  refine Seq.p rfl Ev.extract ?_
  refine Seq.p rfl Ev.assign ?_
  refine Seq.p rfl Ev.assign ?_
  refine Seq.nil ?_
  refine JC.seq ?_
  refine JC.rs ?_
  refine Seq.p rfl Ev.move ?_
  refine Seq.p rfl Ev.ne ?_
  refine Seq.p rfl Ev.move ?_
  refine Seq.orG (D := [21, 22, 23, 24, 25]) (d := 21) (t := 25) (k := 4) (hn := fun h21 => ?_) (hx := ?_)
  · repeat (first | refine Seq.gn rfl rfl rfl rfl ?_ | refine Seq.gu rfl rfl rfl ?_)
    refine Seq.p rfl Ev.pickT ?_
    exact Seq.nil ⟨rfl, (by repeat (first | with_reducible exact Off.refl | refine Off.upd ?_ rfl | exact Off.mix | refine Off.mix2 ?_ rfl)), Look.here⟩
  apply Exists.intro
  refine ⟨fun h21 => ?_, fun u25 => ?_⟩
  · try simp only [decide_eq_true_eq, decide_eq_false_iff_not, Bool.and_eq_true, Bool.or_eq_true, Bool.not_eq_true', Bool.not_eq_false', Bool.or_eq_false_iff, Bool.and_eq_false_imp] at h21
    refine Seq.gy rfl rfl rfl ?_
    refine Seq.p rfl Ev.move ?_
    refine Seq.gy rfl rfl rfl ?_
    refine Seq.p rfl Ev.move ?_
    refine Seq.gy rfl rfl rfl ?_
    refine Seq.p rfl Ev.ne ?_
    refine Seq.p rfl Ev.pickF ?_
    exact Seq.nil ⟨rfl, (by repeat (first | with_reducible exact Off.refl | refine Off.upd ?_ rfl | exact Off.mix | refine Off.mix2 ?_ rfl)), Look.here⟩
  refine Seq.p rfl Ev.move ?_
  refine Seq.orG (D := [26, 27, 28, 29, 30]) (d := 26) (t := 30) (k := 4) (hn := fun h26 => ?_) (hx := ?_)
  · repeat (first | refine Seq.gn rfl rfl rfl rfl ?_ | refine Seq.gu rfl rfl rfl ?_)
    refine Seq.p rfl Ev.pickT ?_
    exact Seq.nil ⟨rfl, (by repeat (first | with_reducible exact Off.refl | refine Off.upd ?_ rfl | exact Off.mix | refine Off.mix2 ?_ rfl)), Look.here⟩
  apply Exists.intro
  refine ⟨fun h26 => ?_, fun u30 => ?_⟩
  · try simp only [decide_eq_true_eq, decide_eq_false_iff_not, Bool.and_eq_true, Bool.or_eq_true, Bool.not_eq_true', Bool.not_eq_false', Bool.or_eq_false_iff, Bool.and_eq_false_imp] at h26
    refine Seq.gy rfl rfl rfl ?_
    refine Seq.p rfl Ev.move ?_
    refine Seq.gy rfl rfl rfl ?_
    refine Seq.p rfl (Ev.lenStr st.string) ?_
    refine Seq.gy rfl rfl rfl ?_
    refine Seq.p rfl Ev.eq ?_
    refine Seq.p rfl Ev.pickF ?_
    exact Seq.nil ⟨rfl, (by repeat (first | with_reducible exact Off.refl | refine Off.upd ?_ rfl | exact Off.mix | refine Off.mix2 ?_ rfl)), Look.here⟩
  refine Seq.p rfl Ev.move ?_
  refine Seq.orG (D := [31, 32, 33, 34, 35]) (d := 31) (t := 35) (k := 4) (hn := fun h31 => ?_) (hx := ?_)
  · repeat (first | refine Seq.gn rfl rfl rfl rfl ?_ | refine Seq.gu rfl rfl rfl ?_)
    refine Seq.p rfl Ev.pickT ?_
    exact Seq.nil ⟨rfl, (by repeat (first | with_reducible exact Off.refl | refine Off.upd ?_ rfl | exact Off.mix | refine Off.mix2 ?_ rfl)), Look.here⟩
  apply Exists.intro
  refine ⟨fun h31 => ?_, fun u35 => ?_⟩
  · try simp only [decide_eq_true_eq, decide_eq_false_iff_not, Bool.and_eq_true, Bool.or_eq_true, Bool.not_eq_true', Bool.not_eq_false', Bool.or_eq_false_iff, Bool.and_eq_false_imp] at h31
    refine Seq.gy rfl rfl rfl ?_
    refine Seq.p rfl Ev.move ?_
    refine Seq.gy rfl rfl rfl ?_
    refine Seq.p rfl (Ev.lenStr st.string) ?_
    refine Seq.gy rfl rfl rfl ?_
    refine Seq.p rfl Ev.gt ?_
    refine Seq.p rfl Ev.pickF ?_
    exact Seq.nil ⟨rfl, (by repeat (first | with_reducible exact Off.refl | refine Off.upd ?_ rfl | exact Off.mix | refine Off.mix2 ?_ rfl)), Look.here⟩
  refine Seq.p rfl Ev.move ?_
  refine Seq.orG (D := [36, 37, 38, 39, 40, 41, 42, 43, 44, 45]) (d := 36) (t := 45) (k := 9) (hn := fun h36 => ?_) (hx := ?_)
  · repeat (first | refine Seq.gn rfl rfl rfl rfl ?_ | refine Seq.gu rfl rfl rfl ?_)
    refine Seq.p rfl Ev.pickT ?_
    exact Seq.nil ⟨rfl, (by repeat (first | with_reducible exact Off.refl | refine Off.upd ?_ rfl | exact Off.mix | refine Off.mix2 ?_ rfl)), Look.here⟩
  apply Exists.intro
  refine ⟨fun h36 => ?_, fun u45 => ?_⟩
  · try simp only [decide_eq_true_eq, decide_eq_false_iff_not, Bool.and_eq_true, Bool.or_eq_true, Bool.not_eq_true', Bool.not_eq_false', Bool.or_eq_false_iff, Bool.and_eq_false_imp] at h36
    refine Seq.gy rfl rfl rfl ?_
    refine Seq.p rfl Ev.move ?_
    refine Seq.gy rfl rfl rfl ?_
    refine Seq.p rfl (Ev.lenStr st.string) ?_
    refine Seq.gy rfl rfl rfl ?_
    refine Seq.p rfl Ev.gt ?_
    refine Seq.gy rfl rfl rfl ?_
    refine Seq.p rfl Ev.move ?_
    refine Seq.andG (D := [40, 41, 42, 43, 44]) (d := 40) (t := 44) (k := 4) (hn := fun h40 => ?_) (hx := ?_)
    · repeat (first | refine Seq.gn rfl rfl rfl rfl ?_ | refine Seq.gu rfl rfl rfl ?_)
      refine Seq.gy rfl rfl rfl ?_
      refine Seq.p rfl Ev.pickF ?_
      exact Seq.nil ⟨rfl, (by repeat (first | with_reducible exact Off.refl | refine Off.upd ?_ rfl | exact Off.mix | refine Off.mix2 ?_ rfl)), Look.here⟩
    apply Exists.intro
    refine ⟨fun h40 => ?_, fun u44 => ?_⟩
    · try simp only [decide_eq_true_eq, decide_eq_false_iff_not, Bool.and_eq_true, Bool.or_eq_true, Bool.not_eq_true', Bool.not_eq_false', Bool.or_eq_false_iff, Bool.and_eq_false_imp] at h40
      refine Seq.gy rfl rfl rfl ?_
      refine Seq.p rfl Ev.move ?_
      refine Seq.gy rfl rfl rfl ?_
      refine Seq.p rfl (Ev.indexStr st.string) ?_
      refine Seq.gy rfl rfl rfl ?_
      refine Seq.p rfl Ev.eq ?_
      refine Seq.gy rfl rfl rfl ?_
      refine Seq.p rfl Ev.pickT ?_
      exact Seq.nil ⟨rfl, (by repeat (first | with_reducible exact Off.refl | refine Off.upd ?_ rfl | exact Off.mix | refine Off.mix2 ?_ rfl)), Look.here⟩
    refine Seq.p rfl Ev.pickF ?_
    exact Seq.nil ⟨rfl, (by repeat (first | with_reducible exact Off.refl | refine Off.upd ?_ rfl | exact Off.mix | refine Off.mix2 ?_ rfl)), Look.here⟩
  refine Seq.nil ?_
  first | refine JC.c (ht := fun c45 => ?_) (hf := fun c45 => ?_) | refine JC.cb (ht := fun c45 => ?_) (hf := fun c45 => ?_)
  · -- then_t45
    exfalso
    simp only [Bool.or_eq_true, Bool.and_eq_true, Bool.not_eq_true, decide_eq_true_eq, Int.toNat_zero, ne_eq, not_true_eq_false, decide_false, Bool.false_eq_true, false_or, not_false_eq_true] at c45 z3
    omega
  · -- else_t45
    refine JC.skip ?_
    refine JC.rs ?_
    refine Seq.p rfl Ev.move ?_
    refine Seq.p rfl (Ev.buildN [_, _] pl.api_Tag z.api_Tag) ?_
    refine Seq.buildSlN _ (hsl := sl.sl_api_Tag) (hz := z.api_Tag) (k := ?_); intro b8
    refine Seq.re (fun w h => Upd.boxOwn h (n := 1) (size := 2) At.z rfl (by omega)) ?_
    refine Seq.callP rfl (fun w hw => hO ▸ textNumber (RAt.up (RAt.own (enc := Tg.enc) (xs := [⟨7, o⟩])) hw) (one_sz ho) (hL.upd hw)) ?_
    refine Seq.p rfl Ev.move ?_
    refine Seq.p rfl Ev.extract ?_
    refine Seq.p rfl Ev.extract ?_
    refine Seq.p rfl Ev.assign ?_
    refine Seq.p rfl Ev.assign ?_
    refine Seq.nil ?_
    refine JC.seq ?_
    refine JC.rs ?_
    refine Seq.p rfl Ev.move ?_
    refine Seq.p rfl Ev.eq ?_
    refine Seq.nil ?_
    first | refine JC.c (ht := fun c54 => ?_) (hf := fun c54 => ?_) | refine JC.cb (ht := fun c54 => ?_) (hf := fun c54 => ?_)
    · -- then_t54
      exact absurd c54 (by decide)
    · -- else_t54
      refine JC.skip ?_
      refine JC.rs ?_
      refine Seq.p rfl Ev.move ?_
      refine Seq.p rfl Ev.eq ?_
      refine Seq.p rfl Ev.move ?_
      refine Seq.andG (D := [70, 71, 72, 73]) (d := 70) (t := 73) (k := 3) (hn := fun h70 => ?_) (hx := ?_)
      · repeat (first | refine Seq.gn rfl rfl rfl rfl ?_ | refine Seq.gu rfl rfl rfl ?_)
        refine Seq.p rfl Ev.pickF ?_
        exact Seq.nil ⟨rfl, (by repeat (first | with_reducible exact Off.refl | refine Off.upd ?_ rfl | exact Off.mix | refine Off.mix2 ?_ rfl)), Look.here⟩
      apply Exists.intro
      refine ⟨fun h70 => ?_, fun u73 => ?_⟩
      · try simp only [decide_eq_true_eq, decide_eq_false_iff_not, Bool.and_eq_true, Bool.or_eq_true, Bool.not_eq_true', Bool.not_eq_false', Bool.or_eq_false_iff, Bool.and_eq_false_imp] at h70
        refine Seq.gy rfl rfl rfl ?_
        refine Seq.p rfl Ev.move ?_
        refine Seq.gy rfl rfl rfl ?_
        refine Seq.p rfl Ev.eq ?_
        refine Seq.p rfl Ev.pickT ?_
        exact Seq.nil ⟨rfl, (by repeat (first | with_reducible exact Off.refl | refine Off.upd ?_ rfl | exact Off.mix | refine Off.mix2 ?_ rfl)), Look.here⟩
      refine Seq.p rfl Ev.move ?_
      refine Seq.andG (D := [74, 75, 76, 77, 78]) (d := 74) (t := 78) (k := 4) (hn := fun h74 => ?_) (hx := ?_)
      · repeat (first | refine Seq.gn rfl rfl rfl rfl ?_ | refine Seq.gu rfl rfl rfl ?_)
        refine Seq.p rfl Ev.pickF ?_
        exact Seq.nil ⟨rfl, (by repeat (first | with_reducible exact Off.refl | refine Off.upd ?_ rfl | exact Off.mix | refine Off.mix2 ?_ rfl)), Look.here⟩
      apply Exists.intro
      refine ⟨fun h74 => ?_, fun u78 => ?_⟩
      · try simp only [decide_eq_true_eq, decide_eq_false_iff_not, Bool.and_eq_true, Bool.or_eq_true, Bool.not_eq_true', Bool.not_eq_false', Bool.or_eq_false_iff, Bool.and_eq_false_imp] at h74
        refine Seq.gy rfl rfl rfl ?_
        refine Seq.p rfl Ev.move ?_
        refine Seq.gy rfl rfl rfl ?_
        refine Seq.p rfl Ev.move ?_
        refine Seq.gy rfl rfl rfl ?_
        refine Seq.p rfl Ev.neStr ?_
        refine Seq.p rfl Ev.pickT ?_
        exact Seq.nil ⟨rfl, (by repeat (first | with_reducible exact Off.refl | refine Off.upd ?_ rfl | exact Off.mix | refine Off.mix2 ?_ rfl)), Look.here⟩
      refine Seq.p rfl Ev.assign ?_
      refine Seq.nil ?_
      refine JC.ret ?_
      -- return 0
      show retQ _ _ _ _ _ _ _ _
      refine ret1 (hp := Part.nil _) (hpost := ?_)
      simp [hne]
set_option maxHeartbeats 2000000 in
set_option maxRecDepth 100000 in
theorem lawDecSome {w : World} {n : Nat} {o : ByteArray} {k : Nat} (hn : n ≤ 18446744073709551615) (ho : o.size ≤ 281474976710656) (hL : Laid w) (hq : numOf o = some k) :
    Spec Go.Proofs.Tryd.prog 4 #[.int .u64 (n : Int), .string o] w [] (fun u _ => u = .bool true) := by
  have hD : ∀ {w : World}, Laid w → Spec Go.Proofs.Tryd.prog 15 #[.int .u64 (n : Int)] w [] (fun v _ => v = .string (decS n)) := fun hL => textDecimal (by omega) hL
  have hN := numV_some (numOf_dec hn)
  obtain ⟨z1, z2, z3⟩ := decS_facts hn
  generalize hs : decS n = s at hD hN z1 z2 z3
  have hO := numV_some hq
  obtain ⟨hok, hk⟩ := numOf_some hq
  have hDk : ∀ {w : World}, Laid w → Spec Go.Proofs.Tryd.prog 15 #[.int .u64 (k : Int)] w [] (fun v _ => v = .string o) := fun hL => hok ▸ textDecimal (by omega) hL
  have hiff : (k : Int) = (n : Int) ↔ o = s := by
    constructor
    · intro h
      have h2 : k = n := by omega
      rw [hok, h2, hs]
    · intro h
      rw [h, ← hs, numOf_dec hn] at hq
      cases hq
      rfl
  refine Spec.enter (fn := Go.Proofs.Tryd.f4) (n := 79) [.int .u64 (n : Int), .string o] Go.Proofs.Tryd.func4 (by kernel_rfl) rfl Go.Proofs.Tryd.ntmps4 Go.Proofs.Tryd.results4 rfl (Own.nil _) ?_
  refine JC.rs ?_
  refine Seq.p rfl Ev.assign ?_
  refine Seq.nil ?_
  refine JC.rs ?_
  refine Seq.p rfl Ev.move ?_
  refine Seq.callP rfl (fun w hw => hD (hL.upd hw)) ?_
  refine Seq.p rfl Ev.assign ?_
  refine Seq.nil ?_
  refine JC.rs ?_
  refine Seq.p rfl Ev.move ?_
  refine Seq.p rfl (Ev.buildN [_, _] pl.api_Tag z.api_Tag) ?_
  refine Seq.buildSlN _ (hsl := sl.sl_api_Tag) (hz := z.api_Tag) (k := ?_); intro b7
  refine Seq.re (fun w h => Upd.boxOwn h (n := 1) (size := 2) At.z rfl (by omega)) ?_
  refine Seq.callP rfl (fun w hw => hN ▸ textNumber (RAt.up (RAt.own (enc := Tg.enc) (xs := [⟨7, s⟩])) hw) (one_sz (by omega)) (hL.upd hw)) ?_
  refine Seq.p rfl Ev.move ?_
  refine Seq.p rfl Ev.extract ?_
  refine Seq.p rfl Ev.extract ?_
  refine Seq.p rfl Ev.assign ?_
  refine Seq.p rfl Ev.assign ?_
  refine Seq.nil ?_
  refine JC.seq ?_
  refine JC.rs ?_
  refine Seq.p rfl Ev.move ?_
  refine Seq.p rfl Ev.ne ?_
  refine Seq.p rfl Ev.move ?_
  refine Seq.orG (D := [21, 22, 23, 24, 25]) (d := 21) (t := 25) (k := 4) (hn := fun h21 => ?_) (hx := ?_)
  · repeat (first | refine Seq.gn rfl rfl rfl rfl ?_ | refine Seq.gu rfl rfl rfl ?_)
    refine Seq.p rfl Ev.pickT ?_
    exact Seq.nil ⟨rfl, (by repeat (first | with_reducible exact Off.refl | refine Off.upd ?_ rfl | exact Off.mix | refine Off.mix2 ?_ rfl)), Look.here⟩
  apply Exists.intro
  refine ⟨fun h21 => ?_, fun u25 => ?_⟩
  · try simp only [decide_eq_true_eq, decide_eq_false_iff_not, Bool.and_eq_true, Bool.or_eq_true, Bool.not_eq_true', Bool.not_eq_false', Bool.or_eq_false_iff, Bool.and_eq_false_imp] at h21
    refine Seq.gy rfl rfl rfl ?_
    refine Seq.p rfl Ev.move ?_
    refine Seq.gy rfl rfl rfl ?_
    refine Seq.p rfl Ev.move ?_
    refine Seq.gy rfl rfl rfl ?_
    refine Seq.p rfl Ev.ne ?_
    refine Seq.p rfl Ev.pickF ?_
    exact Seq.nil ⟨rfl, (by repeat (first | with_reducible exact Off.refl | refine Off.upd ?_ rfl | exact Off.mix | refine Off.mix2 ?_ rfl)), Look.here⟩
  refine Seq.p rfl Ev.move ?_
  refine Seq.orG (D := [26, 27, 28, 29, 30]) (d := 26) (t := 30) (k := 4) (hn := fun h26 => ?_) (hx := ?_)
  · repeat (first | refine Seq.gn rfl rfl rfl rfl ?_ | refine Seq.gu rfl rfl rfl ?_)
    refine Seq.p rfl Ev.pickT ?_
    exact Seq.nil ⟨rfl, (by repeat (first | with_reducible exact Off.refl | refine Off.upd ?_ rfl | exact Off.mix | refine Off.mix2 ?_ rfl)), Look.here⟩
  apply Exists.intro
  refine ⟨fun h26 => ?_, fun u30 => ?_⟩
  · try simp only [decide_eq_true_eq, decide_eq_false_iff_not, Bool.and_eq_true, Bool.or_eq_true, Bool.not_eq_true', Bool.not_eq_false', Bool.or_eq_false_iff, Bool.and_eq_false_imp] at h26
    refine Seq.gy rfl rfl rfl ?_
    refine Seq.p rfl Ev.move ?_
    refine Seq.gy rfl rfl rfl ?_
    refine Seq.p rfl (Ev.lenStr st.string) ?_
    refine Seq.gy rfl rfl rfl ?_
    refine Seq.p rfl Ev.eq ?_
    refine Seq.p rfl Ev.pickF ?_
    exact Seq.nil ⟨rfl, (by repeat (first | with_reducible exact Off.refl | refine Off.upd ?_ rfl | exact Off.mix | refine Off.mix2 ?_ rfl)), Look.here⟩
  refine Seq.p rfl Ev.move ?_
  refine Seq.orG (D := [31, 32, 33, 34, 35]) (d := 31) (t := 35) (k := 4) (hn := fun h31 => ?_) (hx := ?_)
  · repeat (first | refine Seq.gn rfl rfl rfl rfl ?_ | refine Seq.gu rfl rfl rfl ?_)
    refine Seq.p rfl Ev.pickT ?_
    exact Seq.nil ⟨rfl, (by repeat (first | with_reducible exact Off.refl | refine Off.upd ?_ rfl | exact Off.mix | refine Off.mix2 ?_ rfl)), Look.here⟩
  apply Exists.intro
  refine ⟨fun h31 => ?_, fun u35 => ?_⟩
  · try simp only [decide_eq_true_eq, decide_eq_false_iff_not, Bool.and_eq_true, Bool.or_eq_true, Bool.not_eq_true', Bool.not_eq_false', Bool.or_eq_false_iff, Bool.and_eq_false_imp] at h31
    refine Seq.gy rfl rfl rfl ?_
    refine Seq.p rfl Ev.move ?_
    refine Seq.gy rfl rfl rfl ?_
    refine Seq.p rfl (Ev.lenStr st.string) ?_
    refine Seq.gy rfl rfl rfl ?_
    refine Seq.p rfl Ev.gt ?_
    refine Seq.p rfl Ev.pickF ?_
    exact Seq.nil ⟨rfl, (by repeat (first | with_reducible exact Off.refl | refine Off.upd ?_ rfl | exact Off.mix | refine Off.mix2 ?_ rfl)), Look.here⟩
  refine Seq.p rfl Ev.move ?_
  refine Seq.orG (D := [36, 37, 38, 39, 40, 41, 42, 43, 44, 45]) (d := 36) (t := 45) (k := 9) (hn := fun h36 => ?_) (hx := ?_)
  · repeat (first | refine Seq.gn rfl rfl rfl rfl ?_ | refine Seq.gu rfl rfl rfl ?_)
    refine Seq.p rfl Ev.pickT ?_
    exact Seq.nil ⟨rfl, (by repeat (first | with_reducible exact Off.refl | refine Off.upd ?_ rfl | exact Off.mix | refine Off.mix2 ?_ rfl)), Look.here⟩
  apply Exists.intro
  refine ⟨fun h36 => ?_, fun u45 => ?_⟩
  · try simp only [decide_eq_true_eq, decide_eq_false_iff_not, Bool.and_eq_true, Bool.or_eq_true, Bool.not_eq_true', Bool.not_eq_false', Bool.or_eq_false_iff, Bool.and_eq_false_imp] at h36
    refine Seq.gy rfl rfl rfl ?_
    refine Seq.p rfl Ev.move ?_
    refine Seq.gy rfl rfl rfl ?_
    refine Seq.p rfl (Ev.lenStr st.string) ?_
    refine Seq.gy rfl rfl rfl ?_
    refine Seq.p rfl Ev.gt ?_
    refine Seq.gy rfl rfl rfl ?_
    refine Seq.p rfl Ev.move ?_
    refine Seq.andG (D := [40, 41, 42, 43, 44]) (d := 40) (t := 44) (k := 4) (hn := fun h40 => ?_) (hx := ?_)
    · repeat (first | refine Seq.gn rfl rfl rfl rfl ?_ | refine Seq.gu rfl rfl rfl ?_)
      refine Seq.gy rfl rfl rfl ?_
      refine Seq.p rfl Ev.pickF ?_
      exact Seq.nil ⟨rfl, (by repeat (first | with_reducible exact Off.refl | refine Off.upd ?_ rfl | exact Off.mix | refine Off.mix2 ?_ rfl)), Look.here⟩
    apply Exists.intro
    refine ⟨fun h40 => ?_, fun u44 => ?_⟩
    · try simp only [decide_eq_true_eq, decide_eq_false_iff_not, Bool.and_eq_true, Bool.or_eq_true, Bool.not_eq_true', Bool.not_eq_false', Bool.or_eq_false_iff, Bool.and_eq_false_imp] at h40
      refine Seq.gy rfl rfl rfl ?_
      refine Seq.p rfl Ev.move ?_
      refine Seq.gy rfl rfl rfl ?_
      refine Seq.p rfl (Ev.indexStr st.string) ?_
      refine Seq.gy rfl rfl rfl ?_
      refine Seq.p rfl Ev.eq ?_
      refine Seq.gy rfl rfl rfl ?_
      refine Seq.p rfl Ev.pickT ?_
      exact Seq.nil ⟨rfl, (by repeat (first | with_reducible exact Off.refl | refine Off.upd ?_ rfl | exact Off.mix | refine Off.mix2 ?_ rfl)), Look.here⟩
    refine Seq.p rfl Ev.pickF ?_
    exact Seq.nil ⟨rfl, (by repeat (first | with_reducible exact Off.refl | refine Off.upd ?_ rfl | exact Off.mix | refine Off.mix2 ?_ rfl)), Look.here⟩
  refine Seq.nil ?_
  first | refine JC.c (ht := fun c45 => ?_) (hf := fun c45 => ?_) | refine JC.cb (ht := fun c45 => ?_) (hf := fun c45 => ?_)
  · -- then_t45
    exfalso
    simp only [Bool.or_eq_true, Bool.and_eq_true, Bool.not_eq_true, decide_eq_true_eq, Int.toNat_zero, ne_eq, not_true_eq_false, decide_false, Bool.false_eq_true, false_or, not_false_eq_true] at c45 z3
    omega
  · -- else_t45
    refine JC.skip ?_
    refine JC.rs ?_
    refine Seq.p rfl Ev.move ?_
    refine Seq.p rfl (Ev.buildN [_, _] pl.api_Tag z.api_Tag) ?_
    refine Seq.buildSlN _ (hsl := sl.sl_api_Tag) (hz := z.api_Tag) (k := ?_); intro b8
    refine Seq.re (fun w h => Upd.boxOwn h (n := 1) (size := 2) At.z rfl (by omega)) ?_
    refine Seq.callP rfl (fun w hw => hO ▸ textNumber (RAt.up (RAt.own (enc := Tg.enc) (xs := [⟨7, o⟩])) hw) (one_sz ho) (hL.upd hw)) ?_
    refine Seq.p rfl Ev.move ?_
    refine Seq.p rfl Ev.extract ?_
    refine Seq.p rfl Ev.extract ?_
    refine Seq.p rfl Ev.assign ?_
    refine Seq.p rfl Ev.assign ?_
    refine Seq.nil ?_
    refine JC.seq ?_
    refine JC.rs ?_
    refine Seq.p rfl Ev.move ?_
    refine Seq.p rfl Ev.eq ?_
    refine Seq.nil ?_
    first | refine JC.c (ht := fun c54 => ?_) (hf := fun c54 => ?_) | refine JC.cb (ht := fun c54 => ?_) (hf := fun c54 => ?_)
    · -- then_t54
      refine JC.rs ?_
      refine Seq.p rfl Ev.move ?_
      refine Seq.callP rfl (fun w hw => hDk (hL.upd hw)) ?_
      refine Seq.p rfl Ev.move ?_
      refine Seq.p rfl Ev.eqStr ?_
      refine Seq.p rfl Ev.move ?_
      refine Seq.andG (D := [59, 60, 61, 62, 63, 64, 65, 66, 67]) (d := 59) (t := 67) (k := 8) (hn := fun h59 => ?_) (hx := ?_)
      · repeat (first | refine Seq.gn rfl rfl rfl rfl ?_ | refine Seq.gu rfl rfl rfl ?_)
        refine Seq.p rfl Ev.pickF ?_
        exact Seq.nil ⟨rfl, (by repeat (first | with_reducible exact Off.refl | refine Off.upd ?_ rfl | exact Off.mix | refine Off.mix2 ?_ rfl)), Look.here⟩
      apply Exists.intro
      refine ⟨fun h59 => ?_, fun u67 => ?_⟩
      · try simp only [decide_eq_true_eq, decide_eq_false_iff_not, Bool.and_eq_true, Bool.or_eq_true, Bool.not_eq_true', Bool.not_eq_false', Bool.or_eq_false_iff, Bool.and_eq_false_imp] at h59
        refine Seq.gy rfl rfl rfl ?_
        refine Seq.p rfl Ev.move ?_
        refine Seq.gy rfl rfl rfl ?_
        refine Seq.p rfl Ev.move ?_
        refine Seq.gy rfl rfl rfl ?_
        refine Seq.p rfl Ev.eq ?_
        refine Seq.gy rfl rfl rfl ?_
        refine Seq.p rfl Ev.move ?_
        refine Seq.gy rfl rfl rfl ?_
        refine Seq.p rfl Ev.move ?_
        refine Seq.gy rfl rfl rfl ?_
        refine Seq.p rfl Ev.eqStr ?_
        refine Seq.gy rfl rfl rfl ?_
        refine Seq.p rfl (Ev.eqB bl.bool) ?_
        refine Seq.p rfl Ev.pickT ?_
        exact Seq.nil ⟨rfl, (by repeat (first | with_reducible exact Off.refl | refine Off.upd ?_ rfl | exact Off.mix | refine Off.mix2 ?_ rfl)), Look.here⟩
      refine Seq.p rfl Ev.assign ?_
      refine Seq.nil ?_
      refine JC.ret ?_
      -- return 0
      show retQ _ _ _ _ _ _ _ _
      refine ret1 (hp := Part.nil _) (hpost := ?_)
      simp [hiff]
    · -- else_t54
      exact absurd rfl c54
theorem lawDecimals {w : World} {n : Nat} {o : ByteArray} (hn : n ≤ 18446744073709551615) (ho : o.size ≤ 281474976710656) (hL : Laid w) :
    Spec Go.Proofs.Tryd.prog 4 #[.int .u64 (n : Int), .string o] w [] (fun u _ => u = .bool true) := by
  cases hq : numOf o with
  | none => exact lawDecNone hn ho hL hq
  | some k => exact lawDecSome hn ho hL hq
end Go.Rx
