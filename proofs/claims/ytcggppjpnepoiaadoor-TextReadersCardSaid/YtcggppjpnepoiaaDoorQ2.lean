/- A text cut at its first '='; the first place of a byte. -/
import Derived.Test.YtcggppjpnepoiaaDoorR2
namespace Go.Rx
open Go Go.RowKit Go.Lib Go.Proofs.YtcggppjpnepoiaaDoor
set_option linter.unusedVariables false
set_option linter.unusedSimpArgs false
/-- The first place of a byte; the length where there is none. -/
def firstF (c : Int) : List Int → Nat
  | [] => 0
  | x :: r => if x = c then 0 else firstF c r + 1
theorem firstF_le (c : Int) : ∀ l : List Int, firstF c l ≤ l.length
  | [] => Nat.le_refl _
  | x :: r => by
    unfold firstF
    split
    · simp
    · have := firstF_le c r
      simp
      omega
theorem indexByte_first {c : UInt8} : ∀ {l : List Int}, isBytes l → indexByte (l.map fun n => UInt8.ofNat n.toNat) c = if firstF c.toNat l < l.length then (firstF c.toNat l : Int) else -1
  | [], _ => rfl
  | x :: r, h => by
    have hx := h x (List.mem_cons_self ..)
    have ih := indexByte_first (c := c) (l := r) (fun y hy => h y (List.mem_cons_of_mem _ hy))
    have hle := firstF_le c.toNat r
    have hc : (UInt8.ofNat x.toNat == c) = decide (x = (c.toNat : Int)) := by
      rw [Bool.eq_iff_iff, beq_iff_eq, decide_eq_true_eq]
      constructor
      · intro he
        have := congrArg UInt8.toNat he
        rw [UInt8.toNat_ofNat'] at this
        omega
      · intro he
        rw [he, Int.toNat_natCast, UInt8.ofNat_toNat]
    by_cases he : x = (c.toNat : Int)
    · have e1 : firstF c.toNat (x :: r) = 0 := if_pos he
      rw [e1, if_pos (by simp)]
      simp only [List.map_cons, indexByte, hc]
      rw [decide_eq_true he, if_pos rfl]
      rfl
    · have e1 : firstF c.toNat (x :: r) = firstF c.toNat r + 1 := if_neg he
      rw [e1]
      simp only [List.map_cons, indexByte, hc, List.length_cons]
      rw [decide_eq_false he, if_neg (by simp), ih]
      by_cases hf : firstF c.toNat r < r.length
      · have hne : ((firstF c.toNat r : Int) == -1) = false := by
          rw [beq_eq_false_iff_ne]
          omega
        have h2 : firstF c.toNat r + 1 < r.length + 1 := by omega
        simp only [if_pos hf, hne, if_pos h2, Bool.false_eq_true, if_false]
        omega
      · have h2 : ¬ firstF c.toNat r + 1 < r.length + 1 := by omega
        simp only [if_neg hf, if_neg h2]
        rfl
def cutV (F : List Int) : Value := if firstF 61 F < F.length then .tuple #[.string (strOf (F.take (firstF 61 F))), .string (strOf (F.drop (firstF 61 F + 1))), .bool true] else .tuple #[.string (strOf F), .string ⟨#[]⟩, .bool false]
theorem indexSpec {w : World} {F : List Int} (hB : isBytes F) : Spec Go.Proofs.Tryd.prog 106 #[.string (strOf F), .string ⟨#[61]⟩] w [] (fun u _ => u = .int .i64 (if firstF 61 F < F.length then (firstF 61 F : Int) else -1)) := by
  refine spec_of_below ⟨Go.Proofs.Tryd.f106, Go.Proofs.Tryd.func106, by kernel_rfl, rfl⟩ ((Go.Proofs.Tryd.stringslite_Index_one (strOf F) 61 w).mono ?_)
  rintro e w' ⟨rfl, rfl⟩
  refine ⟨?_, Below.refl _ _⟩
  rw [strOf_toList, indexByte_first hB]
  rfl
set_option maxHeartbeats 1000000 in
set_option maxRecDepth 100000 in
theorem cutHit {w : World} {F : List Int} (hB : isBytes F) (hl : F.length ≤ 281474976710656) (h : firstF 61 F < F.length) : Spec Go.Proofs.Tryd.prog 99 #[.string (strOf F), .string ⟨#[61]⟩] w [] (fun u _ => u = cutV F) := by
  have hI := fun w => indexSpec (w := w) hB
  rw [if_pos h] at hI
  have hss := strOf_size F
  generalize hk : firstF 61 F = k at hI h
  refine Spec.enter (fn := Go.Proofs.Tryd.f99) (n := 23) [.string (strOf F), .string ⟨#[61]⟩] Go.Proofs.Tryd.func99 (by kernel_rfl) rfl Go.Proofs.Tryd.ntmps99 Go.Proofs.Tryd.results99 rfl (Own.nil _) ?_
  refine JC.rs ?_
  refine Seq.p rfl Ev.assign ?_
  refine Seq.p rfl Ev.assign ?_
  refine Seq.p rfl Ev.assign ?_
  refine Seq.nil ?_
  refine JC.seq ?_
  refine JC.rs ?_
  refine Seq.p rfl Ev.move ?_
  refine Seq.p rfl Ev.move ?_
  refine Seq.callP rfl (fun w hw => hI w) ?_
  refine Seq.p rfl Ev.assign ?_
  refine Seq.nil ?_
  refine JC.rs ?_
  refine Seq.p rfl Ev.move ?_
  refine Seq.p rfl Ev.ge ?_
  refine Seq.nil ?_
  first | refine JC.c (ht := fun c12 => ?_) (hf := fun c12 => ?_) | refine JC.cb (ht := fun c12 => ?_) (hf := fun c12 => ?_)
  · -- then_t12
    refine JC.qs mixed (by kernel_rfl) ?_
    refine Qui.p rfl Ev.move ?_
    refine Qui.p rfl Ev.move ?_
    refine Qui.p rfl (Ev.cutStr (s := strOf F) (l := 0) (h := k) st.string (hlo := rfl) (hhi := ⟨_, (by repeat (first | exact Look.here | apply Look.there (hne := rfl) | exact Look.const | apply Look.mix rfl | exact Look.arg0 | apply Look.args | exact Look.func))⟩)) ?_
    refine Qui.p rfl Ev.move ?_
    refine Qui.p rfl Ev.move ?_
    refine Qui.p rfl Ev.move ?_
    refine Qui.p rfl (Ev.lenStr st.string) ?_
    refine Qui.p rfl (Ev.addN (m := k) (c := 1)) ?_
    refine Qui.p rfl (Ev.cutStr (s := strOf F) (l := k + 1) (h := (strOf F).size) st.string (hlo := ⟨_, (by repeat (first | exact Look.here | apply Look.there (hne := rfl) | exact Look.const | apply Look.mix rfl | exact Look.arg0 | apply Look.args | exact Look.func))⟩) (hhi := rfl)) ?_
    refine Qui.p rfl Ev.assign ?_
    refine Qui.p rfl Ev.assign ?_
    refine Qui.p rfl Ev.assign ?_
    refine Qui.nil ?_
    refine JC.ret ?_
    -- return 0
    show retQ _ _ _ _ _ _ _ _
    refine ret3 (hp := Part.nil _) (hpost := ?_)
    unfold cutV
    rw [hk, if_pos h, strOf_cut, strOf_cut, hss, List.take_length, List.drop_zero]
    try rfl
  · -- else_t12
    exact absurd (by omega) c12
set_option maxHeartbeats 1000000 in
set_option maxRecDepth 100000 in
theorem cutMiss {w : World} {F : List Int} (hB : isBytes F) (h : ¬ firstF 61 F < F.length) : Spec Go.Proofs.Tryd.prog 99 #[.string (strOf F), .string ⟨#[61]⟩] w [] (fun u _ => u = cutV F) := by
  have hI := fun w => indexSpec (w := w) hB
  rw [if_neg h] at hI
  refine Spec.enter (fn := Go.Proofs.Tryd.f99) (n := 23) [.string (strOf F), .string ⟨#[61]⟩] Go.Proofs.Tryd.func99 (by kernel_rfl) rfl Go.Proofs.Tryd.ntmps99 Go.Proofs.Tryd.results99 rfl (Own.nil _) ?_
  refine JC.rs ?_
  refine Seq.p rfl Ev.assign ?_
  refine Seq.p rfl Ev.assign ?_
  refine Seq.p rfl Ev.assign ?_
  refine Seq.nil ?_
  refine JC.seq ?_
  refine JC.rs ?_
  refine Seq.p rfl Ev.move ?_
  refine Seq.p rfl Ev.move ?_
  refine Seq.callP rfl (fun w hw => hI w) ?_
  refine Seq.p rfl Ev.assign ?_
  refine Seq.nil ?_
  refine JC.rs ?_
  refine Seq.p rfl Ev.move ?_
  refine Seq.p rfl Ev.ge ?_
  refine Seq.nil ?_
  first | refine JC.c (ht := fun c12 => ?_) (hf := fun c12 => ?_) | refine JC.cb (ht := fun c12 => ?_) (hf := fun c12 => ?_)
  · -- then_t12
    exact absurd c12 (by omega)
  · -- else_t12
    refine JC.skip ?_
    refine JC.rs ?_
    refine Seq.p rfl Ev.move ?_
    refine Seq.p rfl Ev.assign ?_
    refine Seq.p rfl Ev.assign ?_
    refine Seq.p rfl Ev.assign ?_
    refine Seq.nil ?_
    refine JC.ret ?_
    -- return 0
    show retQ _ _ _ _ _ _ _ _
    refine ret3 (hp := Part.nil _) (hpost := ?_)
    unfold cutV
    rw [if_neg h]
    try rfl
set_option maxHeartbeats 1000000 in
set_option maxRecDepth 100000 in
theorem textCut {w : World} {F : List Int} (hB : isBytes F) (hl : F.length ≤ 281474976710656) : Spec Go.Proofs.Tryd.prog 78 #[.string (strOf F), .string ⟨#[61]⟩] w [] (fun u _ => u = cutV F) := by
  have hC : ∀ w, Spec Go.Proofs.Tryd.prog 99 #[.string (strOf F), .string ⟨#[61]⟩] w [] (fun u _ => u = cutV F) := fun w => by
    by_cases h : firstF 61 F < F.length
    · exact cutHit hB hl h
    · exact cutMiss hB h
  have hV : ∃ a b c, cutV F = .tuple #[.string a, .string b, .bool c] := by
    unfold cutV
    split
    · exact ⟨_, _, _, rfl⟩
    · exact ⟨_, _, _, rfl⟩
  obtain ⟨a, b, c, hV⟩ := hV
  rw [hV] at hC ⊢
  refine Spec.enter (fn := Go.Proofs.Tryd.f78) (n := 13) [.string (strOf F), .string ⟨#[61]⟩] Go.Proofs.Tryd.func78 (by kernel_rfl) rfl Go.Proofs.Tryd.ntmps78 Go.Proofs.Tryd.results78 rfl (Own.nil _) ?_
  refine JC.rs ?_
  refine Seq.p rfl Ev.assign ?_
  refine Seq.p rfl Ev.assign ?_
  refine Seq.p rfl Ev.assign ?_
  refine Seq.nil ?_
  refine JC.rs ?_
  refine Seq.p rfl Ev.move ?_
  refine Seq.p rfl Ev.move ?_
  refine Seq.callP rfl (fun w hw => hC w) ?_
  refine Seq.p rfl Ev.extract ?_
  refine Seq.p rfl Ev.extract ?_
  refine Seq.p rfl Ev.extract ?_
  refine Seq.p rfl Ev.assign ?_
  refine Seq.p rfl Ev.assign ?_
  refine Seq.p rfl Ev.assign ?_
  refine Seq.nil ?_
  refine JC.ret ?_
  -- return 0
  show retQ _ _ _ _ _ _ _ _
  refine ret3 (hp := Part.nil _) (hpost := ?_)
  rfl
end Go.Rx
