/- The beginning of a line: what it is, and the document's head. -/
import Derived.Test.YtcggppjpnepoiaaDoorP4
namespace Go.Rx
open Go Go.RowKit Go.Lib Go.Proofs.YtcggppjpnepoiaaDoor
set_option linter.unusedVariables false
set_option linter.unusedSimpArgs false
def beginL : List Int := [56, 61, 66, 82, 83, 46, 49, 1, 57, 61]
abbrev beginS : ByteArray := ⟨#[56, 61, 66, 82, 83, 46, 49, 1, 57, 61]⟩
theorem begin_at : ∀ i : Fin 10, bAt beginS i.val = beginL[i.val]! := by decide
theorem begin_get {i : Nat} (h : i < 10) : bAt beginS (Int.toNat (i : Int)) = beginL[i]! := begin_at ⟨i, h⟩
def digit (c : Int) : Bool := decide (48 ≤ c) && decide (c ≤ 57)
/-- How many bytes are those of every line's beginning. -/
def preF (l : List Int) : Nat → Nat → Nat
  | 0, i => i
  | k + 1, i => if i < l.length ∧ l[i]! = beginL[i]! then preF l k (i + 1) else i
/-- How many digits stand behind it. -/
def dgF (l : List Int) : Nat → Nat → Nat
  | 0, n => n
  | k + 1, n => if 10 + n < l.length ∧ digit l[10 + n]! = true then dgF l k (n + 1) else n
inductive HeadA
  | bad (at_ why : Int)
  | ok (from_ long : Nat)
def headF (l : List Int) : HeadA :=
  if preF l 10 0 < 10 then (if preF l 10 0 = l.length then .bad (preF l 10 0 : Nat) 20 else .bad (preF l 10 0 : Nat) 3)
  else if 10 + dgF l 5 0 = l.length then .bad l.length 20
  else match natF (strOf ((l.drop 10).take (dgF l 5 0))) with
    | some k => if dgF l 5 0 = 5 ∨ l[10 + dgF l 5 0]! ≠ 1 then .bad 10 3 else .ok (11 + dgF l 5 0) k
    | none => .bad 10 3
def badV (a c : Int) : Value := .agg #[.string ⟨#[]⟩, .slice none 0 0, .int .i64 a, .int .i64 c, .bool false, .int .i64 0]
def headV : HeadA → Value
  | .bad a c => .tuple #[.int .i64 0, .int .i64 0, badV a c]
  | .ok f k => .tuple #[.int .i64 (f : Int), .int .i64 (k : Int), badV 0 0]
theorem dgF_le (l : List Int) : ∀ (k n : Nat), dgF l k n ≤ n + k
  | 0, n => Nat.le_refl _
  | k + 1, n => by
    unfold dgF
    split
    · have := dgF_le l k (n + 1); omega
    · omega
theorem preF_le (l : List Int) : ∀ (k i : Nat), preF l k i ≤ i + k
  | 0, n => Nat.le_refl _
  | k + 1, n => by
    unfold preF
    split
    · have := preF_le l k (n + 1); omega
    · omega
theorem preF_len (l : List Int) : ∀ (k i : Nat), i ≤ l.length → preF l k i ≤ l.length
  | 0, n, h => h
  | k + 1, n, h => by
    unfold preF
    split
    · exact preF_len l k (n + 1) (by omega)
    · omega
theorem dgF_len (l : List Int) : ∀ (k n : Nat), 10 + n ≤ l.length → 10 + dgF l k n ≤ l.length
  | 0, n, h => h
  | k + 1, n, h => by
    unfold dgF
    split
    · exact dgF_len l k (n + 1) (by omega)
    · omega
theorem natV_form (o : Option Nat) : ∃ (k : Nat) (b : Bool), natV o = .tuple #[.int .u64 (k : Int), .bool b] ∧ o = if b = true then some k else none := by
  cases o with
  | none => exact ⟨0, false, rfl, rfl⟩
  | some k => exact ⟨k, true, rfl, rfl⟩
theorem natRest_lt : ∀ (l : List UInt8) (n k : Nat), natRest l n = some k → k < (n + 1) * 10 ^ l.length
  | [], n, k, h => by
    simp only [natRest, Option.some.injEq] at h
    simp
    omega
  | c :: r, n, k, h => by
    simp only [natRest] at h
    split at h
    · cases h
    · split at h
      · cases h
      · have h1 := natRest_lt r _ k h
        rw [List.length_cons, Nat.pow_succ]
        have h2 : (n * 10 + (c.toNat - 48) + 1) ≤ (n + 1) * 10 := by omega
        have h3 := Nat.mul_le_mul_right (10 ^ r.length) h2
        have h4 : (n + 1) * 10 * 10 ^ r.length = (n + 1) * (10 ^ r.length * 10) := by rw [Nat.mul_assoc, Nat.mul_comm 10]
        omega
theorem natF_lt {s : ByteArray} {k : Nat} (h : natF s = some k) : k < 10 ^ s.size := by
  unfold natF at h
  split at h
  · cases h
  · have := natRest_lt _ _ _ h
    simpa using this
theorem head_bad {l : List Int} {n k : Nat} {bk : Bool} (hp : preF l 10 0 = 10) (hg : dgF l 5 0 = n) (hl : ¬ 10 + n = l.length) (hkk : natF (strOf ((l.drop 10).take n)) = if bk = true then some k else none)
    (h : (decide ((n : Int) = 5) || !bk || decide (l[10 + n]! ≠ 1)) = true) : headF l = .bad 10 3 := by
  rw [headF, hp, hg, if_neg (by omega), if_neg hl, hkk]
  cases bk with
  | false => rfl
  | true =>
    simp only [if_true]
    rw [if_pos]
    simp only [Bool.not_true, Bool.or_false, Bool.or_eq_true, decide_eq_true_eq] at h
    rcases h with h | h
    · exact .inl (by omega)
    · exact .inr h
theorem head_ok {l : List Int} {n k : Nat} {bk : Bool} (hp : preF l 10 0 = 10) (hg : dgF l 5 0 = n) (hl : ¬ 10 + n = l.length) (hkk : natF (strOf ((l.drop 10).take n)) = if bk = true then some k else none)
    (h : (decide ((n : Int) = 5) || !bk || decide (l[10 + n]! ≠ 1)) = false) : headF l = .ok (11 + n) k ∧ k < 10000 := by
  simp only [Bool.or_eq_false_iff, Bool.not_eq_false', decide_eq_false_iff_not] at h
  obtain ⟨⟨h1, rfl⟩, h2⟩ := h
  have hn : n ≤ 5 := by rw [← hg]; exact dgF_le l 5 0
  simp only [if_true] at hkk
  refine ⟨?_, ?_⟩
  · rw [headF, hp, hg, if_neg (by omega), if_neg hl, hkk]
    simp only
    rw [if_neg]
    rintro (h | h)
    · omega
    · exact h2 h
  · have h3 := natF_lt hkk
    rw [strOf_size] at h3
    have h4 : ((l.drop 10).take n).length ≤ 4 := by rw [List.length_take]; omega
    exact Nat.lt_of_lt_of_le h3 (Nat.pow_le_pow_right (by decide) h4)
set_option maxHeartbeats 2000000 in
set_option maxRecDepth 100000 in
theorem refHead {w : World} {v : Value} {l : List Int} (hr : RSl byteEnc 1 w [] v l) (hB : isBytes l) :
    Spec Go.Proofs.Tryd.prog 52 #[v] w [] (fun u _ => u = headV (headF l)) := by
  have hsm := hr.small
  refine Spec.enter (fn := Go.Proofs.Tryd.f52) (n := 104) [v] Go.Proofs.Tryd.func52 (by kernel_rfl) rfl Go.Proofs.Tryd.ntmps52 Go.Proofs.Tryd.results52 rfl (Own.nil _) ?_
  refine JC.rs ?_
  refine Seq.p rfl Ev.assign ?_
  refine Seq.p rfl Ev.assign ?_
  refine Seq.alloc (cs := [_, _, _, _, _, _]) (hz := z.bourseref03_Answer) (k := ?_); intro b4
  refine Seq.nil ?_
  refine JC.seq ?_
  refine JC.rs ?_
  refine Seq.p rfl Ev.assign ?_
  refine Seq.nil ?_
  refine JC.blk ?_
  refine JC.loop (α := Nat) (I := fun i e1 H1 => Has [2, 3, 5, 10, 11, 12, 13, 14, 15, 16, 17, 18, 19, 20, 21, 22, 23, 24, 25, 26, 27, 28, 29] [(5, .int .i64 (i : Int))] _ e1 ∧ H1 = _ ∧ i ≤ 10 ∧ i ≤ l.length ∧ preF l (10 - i) i = preF l 10 0) (μ := fun i => 10 - i) 0 ⟨Has.mk Off.refl (allLook_cons (by repeat (first | exact Look.here | apply Look.there (hne := rfl) | exact Look.const | apply Look.mix rfl | exact Look.arg0 | apply Look.args | exact Look.func)) allLook_nil), rfl, by omega, by omega, rfl⟩ ?_
  rintro i _ _ ⟨⟨u, rfl⟩, rfl, hi, hil, hq⟩; dsimp only [setL]
  refine JC.seq ?_
  refine JC.rs ?_
  refine Seq.p rfl Ev.move ?_
  refine Seq.p rfl Ev.lt ?_
  refine Seq.nil ?_
  first | refine JC.c (ht := fun c11 => ?_) (hf := fun c11 => ?_) | refine JC.cb (ht := fun c11 => ?_) (hf := fun c11 => ?_)
  · -- then_t11
    have hi2 : i < 10 := by omega
    rw [show 10 - i = (10 - (i + 1)) + 1 by omega, preF] at hq
    refine JC.skip ?_
    refine JC.seq ?_
    refine JC.blk ?_
    refine JC.seq ?_
    refine JC.rs ?_
    refine Seq.p rfl Ev.move ?_
    refine Seq.p rfl Ev.move ?_
    refine Seq.p rfl (Ev.lenSl sl.sl_uint8 (hr := hr.r)) ?_
    refine Seq.p rfl Ev.eq ?_
    refine Seq.nil ?_
    first | refine JC.c (ht := fun c17 => ?_) (hf := fun c17 => ?_) | refine JC.cb (ht := fun c17 => ?_) (hf := fun c17 => ?_)
    · -- then_t17
      refine JC.rs ?_
      refine Seq.p rfl Ev.move ?_
      refine Seq.p rfl (Ev.lenSl sl.sl_uint8 (hr := hr.r)) ?_
      refine Seq.callP rfl (fun w hw => refBad) ?_
      refine Seq.p rfl Ev.assign ?_
      refine Seq.p rfl Ev.assign ?_
      refine Seq.storeN [_, _, _, _, _, _] sz.bourseref03_Answer (k := ?_)
      refine Seq.nil ?_
      refine JC.ret ?_
      -- return 0
      show retQ _ _ _ _ _ _ _ _
      refine retI (RVs.t (hs := (RVs.t (hs := (RVs.bA ag.bourseref03_Answer (hs := RVs.nil)))))) (Part.nil _) ?_
      rw [if_neg (by omega)] at hq
      rw [headF, ← hq, if_pos hi2, if_pos (by omega)]
      rw [show (l.length : Int) = (i : Int) by omega]
      rfl
    · -- else_t17
      have hi3 : i < l.length := by omega
      refine JC.skip ?_
      refine JC.qs mixed (by kernel_rfl) ?_
      refine Qui.p rfl Ev.move ?_
      refine Qui.p rfl Ev.move ?_
      refine Qui.p rfl (Ev.iaN sl.sl_uint8 (hr := hr.r)) ?_
      refine Qui.p rfl (Ev.ldE1 sc.uint8 (hr := hr.r)) ?_
      refine Qui.p rfl Ev.move ?_
      refine Qui.p rfl (Ev.indexStr st.string (hi := ⟨by omega, by show (i : Int) < 10; omega⟩)) ?_
      refine Qui.p rfl Ev.ne ?_
      refine Qui.nil ?_
      first | refine JC.c (ht := fun c27 => ?_) (hf := fun c27 => ?_) | refine JC.cb (ht := fun c27 => ?_) (hf := fun c27 => ?_)
      · -- then_t27
        refine JC.rs ?_
        refine Seq.p rfl Ev.move ?_
        refine Seq.callP rfl (fun w hw => refBad) ?_
        refine Seq.p rfl Ev.assign ?_
        refine Seq.p rfl Ev.assign ?_
        refine Seq.storeN [_, _, _, _, _, _] sz.bourseref03_Answer (k := ?_)
        refine Seq.nil ?_
        refine JC.ret ?_
        -- return 1
        show retQ _ _ _ _ _ _ _ _
        refine retI (RVs.t (hs := (RVs.t (hs := (RVs.bA ag.bourseref03_Answer (hs := RVs.nil)))))) (Part.nil _) ?_
        rw [begin_get hi2] at c27
        rw [if_neg (fun h => c27 h.2)] at hq
        rw [headF, ← hq, if_pos hi2, if_neg (by omega)]
        rfl
      · -- else_t27
        refine JC.skip ?_
        refine JC.reg ?_
        refine Seq.p rfl Ev.move ?_
        refine Seq.p rfl (by first | exact Ev.inc | exact Ev.add) ?_
        refine Seq.p rfl Ev.assign ?_
        refine Seq.nil ?_
        rw [begin_get hi2] at c27
        rw [if_pos ⟨hi3, Classical.not_not.1 c27⟩] at hq
        exact ⟨i + 1, _, Part.refl _, ⟨Has.mk (by repeat (first | refine Off.upd ?_ rfl | exact Off.mix | refine Off.mix2 ?_ rfl | exact Off.refl)) (allLook_cons (by repeat (first | exact Look.here | apply Look.there (hne := rfl) | exact Look.const | apply Look.mix rfl | exact Look.arg0 | apply Look.args | exact Look.func)) allLook_nil), rfl, by omega, by omega, hq⟩, by omega⟩
  · -- else_t11
    obtain rfl : i = 10 := by omega
    have hp : preF l 10 0 = 10 := hq.symm
    refine JC.exit ?_ -- 0
    refine JC.rs ?_
    refine Seq.p rfl Ev.assign ?_
    refine Seq.nil ?_
    refine JC.rs ?_
    refine Seq.p rfl Ev.assign ?_
    refine Seq.nil ?_
    refine JC.seq ?_
    refine JC.blk ?_
    refine JC.loop (α := Nat) (I := fun n e1 H1 => Has [7, 30, 31, 32, 33, 34, 35, 36, 37, 38, 39, 40, 41, 42, 43, 44, 45, 46, 47, 48, 49, 50, 51, 52, 53, 54, 55, 56, 57, 58, 59] [(7, .int .i64 (n : Int))] _ e1 ∧ H1 = _ ∧ n ≤ 5 ∧ 10 + n ≤ l.length ∧ dgF l (5 - n) n = dgF l 5 0) (μ := fun n => 5 - n) 0 ⟨Has.mk Off.refl (allLook_cons (by repeat (first | exact Look.here | apply Look.there (hne := rfl) | exact Look.const | apply Look.mix rfl | exact Look.arg0 | apply Look.args | exact Look.func)) allLook_nil), rfl, by omega, by omega, rfl⟩ ?_
    rintro n _ _ ⟨⟨u, rfl⟩, rfl, hn, hnl, hd⟩; dsimp only [setL]
    refine JC.seq ?_
    refine JC.rs ?_
    refine Seq.p rfl Ev.move ?_
    refine Seq.p rfl Ev.lt ?_
    refine Seq.p rfl Ev.move ?_
    refine Seq.andG (D := [32, 33, 34, 35, 36, 37, 38, 39]) (d := 32) (t := 39) (k := 7) (hn := fun h32 => ?_) (hx := ?_)
    · repeat (first | refine Seq.gn rfl rfl rfl rfl ?_ | refine Seq.gu rfl rfl rfl ?_)
      refine Seq.p rfl Ev.pickF ?_
      exact Seq.nil ⟨rfl, (by repeat (first | with_reducible exact Off.refl | refine Off.upd ?_ rfl | exact Off.mix | refine Off.mix2 ?_ rfl)), Look.here⟩
    apply Exists.intro
    refine ⟨fun h32 => ?_, fun u39 => ?_⟩
    · try simp only [decide_eq_true_eq, decide_eq_false_iff_not, Bool.and_eq_true, Bool.or_eq_true, Bool.not_eq_true', Bool.not_eq_false', Bool.or_eq_false_iff, Bool.and_eq_false_imp] at h32
      refine Seq.gy rfl rfl rfl ?_
      refine Seq.p rfl Ev.move ?_
      refine Seq.gy rfl rfl rfl ?_
      refine Seq.p rfl Ev.move ?_
      refine Seq.gy rfl rfl rfl ?_
      refine Seq.p rfl (Ev.addN (m := 10) (c := n)) ?_
      refine Seq.gy rfl rfl rfl ?_
      refine Seq.p rfl Ev.move ?_
      refine Seq.gy rfl rfl rfl ?_
      refine Seq.p rfl (Ev.lenSl sl.sl_uint8 (hr := hr.r)) ?_
      refine Seq.gy rfl rfl rfl ?_
      refine Seq.p rfl Ev.lt ?_
      refine Seq.p rfl Ev.pickT ?_
      exact Seq.nil ⟨rfl, (by repeat (first | with_reducible exact Off.refl | refine Off.upd ?_ rfl | exact Off.mix | refine Off.mix2 ?_ rfl)), Look.here⟩
    refine Seq.p rfl Ev.move ?_
    refine Seq.andG (D := [40, 41, 42, 43, 44, 45, 46, 47, 48]) (d := 40) (t := 48) (k := 8) (hn := fun h40 => ?_) (hx := ?_)
    · repeat (first | refine Seq.gn rfl rfl rfl rfl ?_ | refine Seq.gu rfl rfl rfl ?_)
      refine Seq.p rfl Ev.pickF ?_
      exact Seq.nil ⟨rfl, (by repeat (first | with_reducible exact Off.refl | refine Off.upd ?_ rfl | exact Off.mix | refine Off.mix2 ?_ rfl)), Look.here⟩
    apply Exists.intro
    refine ⟨fun h40 => ?_, fun u48 => ?_⟩
    · try simp only [decide_eq_true_eq, decide_eq_false_iff_not, Bool.and_eq_true, Bool.or_eq_true, Bool.not_eq_true', Bool.not_eq_false', Bool.or_eq_false_iff, Bool.and_eq_false_imp] at h40
      refine Seq.gy rfl rfl rfl ?_
      refine Seq.p rfl Ev.move ?_
      refine Seq.gy rfl rfl rfl ?_
      refine Seq.p rfl Ev.move ?_
      refine Seq.gy rfl rfl rfl ?_
      refine Seq.p rfl Ev.move ?_
      refine Seq.gy rfl rfl rfl ?_
      refine Seq.p rfl (Ev.addN (m := 10) (c := n)) ?_
      refine Seq.gy rfl rfl rfl ?_
      refine Seq.p rfl (Ev.iaN sl.sl_uint8 (hr := hr.r)) ?_
      refine Seq.gy rfl rfl rfl ?_
      refine Seq.p rfl (Ev.ldE1 sc.uint8 (hr := hr.r)) ?_
      refine Seq.gy rfl rfl rfl ?_
      refine Seq.p rfl Ev.ge ?_
      refine Seq.p rfl Ev.pickT ?_
      exact Seq.nil ⟨rfl, (by repeat (first | with_reducible exact Off.refl | refine Off.upd ?_ rfl | exact Off.mix | refine Off.mix2 ?_ rfl)), Look.here⟩
    refine Seq.p rfl Ev.move ?_
    refine Seq.andG (D := [49, 50, 51, 52, 53, 54, 55, 56, 57]) (d := 49) (t := 57) (k := 8) (hn := fun h49 => ?_) (hx := ?_)
    · repeat (first | refine Seq.gn rfl rfl rfl rfl ?_ | refine Seq.gu rfl rfl rfl ?_)
      refine Seq.p rfl Ev.pickF ?_
      exact Seq.nil ⟨rfl, (by repeat (first | with_reducible exact Off.refl | refine Off.upd ?_ rfl | exact Off.mix | refine Off.mix2 ?_ rfl)), Look.here⟩
    apply Exists.intro
    refine ⟨fun h49 => ?_, fun u57 => ?_⟩
    · try simp only [decide_eq_true_eq, decide_eq_false_iff_not, Bool.and_eq_true, Bool.or_eq_true, Bool.not_eq_true', Bool.not_eq_false', Bool.or_eq_false_iff, Bool.and_eq_false_imp] at h49
      refine Seq.gy rfl rfl rfl ?_
      refine Seq.p rfl Ev.move ?_
      refine Seq.gy rfl rfl rfl ?_
      refine Seq.p rfl Ev.move ?_
      refine Seq.gy rfl rfl rfl ?_
      refine Seq.p rfl Ev.move ?_
      refine Seq.gy rfl rfl rfl ?_
      refine Seq.p rfl (Ev.addN (m := 10) (c := n)) ?_
      refine Seq.gy rfl rfl rfl ?_
      refine Seq.p rfl (Ev.iaN sl.sl_uint8 (hr := hr.r)) ?_
      refine Seq.gy rfl rfl rfl ?_
      refine Seq.p rfl (Ev.ldE1 sc.uint8 (hr := hr.r)) ?_
      refine Seq.gy rfl rfl rfl ?_
      refine Seq.p rfl Ev.le ?_
      refine Seq.p rfl Ev.pickT ?_
      exact Seq.nil ⟨rfl, (by repeat (first | with_reducible exact Off.refl | refine Off.upd ?_ rfl | exact Off.mix | refine Off.mix2 ?_ rfl)), Look.here⟩
    refine Seq.nil ?_
    first | refine JC.c (ht := fun c57 => ?_) (hf := fun c57 => ?_) | refine JC.cb (ht := fun c57 => ?_) (hf := fun c57 => ?_)
    · -- then_t57
      refine JC.skip ?_
      refine JC.blk ?_
      refine JC.reg ?_
      refine Seq.p rfl Ev.move ?_
      refine Seq.p rfl (by first | exact Ev.inc | exact Ev.add) ?_
      refine Seq.p rfl Ev.assign ?_
      refine Seq.nil ?_
      simp only [Bool.and_eq_true, decide_eq_true_eq] at c57
      rw [show 5 - n = (5 - (n + 1)) + 1 by omega, dgF, if_pos ⟨by omega, by unfold digit; simp only [Bool.and_eq_true, decide_eq_true_eq]; omega⟩] at hd
      exact ⟨n + 1, _, Part.refl _, ⟨Has.mk (by repeat (first | refine Off.upd ?_ rfl | exact Off.mix | refine Off.mix2 ?_ rfl | exact Off.refl)) (allLook_cons (by repeat (first | exact Look.here | apply Look.there (hne := rfl) | exact Look.const | apply Look.mix rfl | exact Look.arg0 | apply Look.args | exact Look.func)) allLook_nil), rfl, by omega, by omega, hd⟩, by omega⟩
    · -- else_t57
      have hg : dgF l 5 0 = n := by
        rw [← hd]
        rcases Nat.lt_or_ge n 5 with h5 | h5
        · rw [show 5 - n = (5 - (n + 1)) + 1 by omega, dgF, if_neg]
          rintro ⟨h1, h2⟩
          simp only [Bool.and_eq_false_iff, decide_eq_false_iff_not] at c57
          unfold digit at h2
          simp only [Bool.and_eq_true, decide_eq_true_eq] at h2
          omega
        · rw [show 5 - n = 0 by omega]; rfl
      have hsub : RSl byteEnc 1 w [] (subSl v 10 (10 + n) 1) ((l.drop 10).take n) := by
        have h2 := hr.sub (lo := 10) (hi := 10 + n) (by omega) (by omega)
        rwa [show 10 + n - 10 = n by omega] at h2
      refine JC.exit ?_ -- 2
      refine JC.seq ?_
      refine JC.rs ?_
      refine Seq.p rfl Ev.move ?_
      refine Seq.p rfl Ev.move ?_
      refine Seq.p rfl (Ev.addN (m := 10) (c := n)) ?_
      refine Seq.p rfl Ev.move ?_
      refine Seq.p rfl (Ev.lenSl sl.sl_uint8 (hr := hr.r)) ?_
      refine Seq.p rfl Ev.eq ?_
      refine Seq.nil ?_
      first | refine JC.c (ht := fun c65 => ?_) (hf := fun c65 => ?_) | refine JC.cb (ht := fun c65 => ?_) (hf := fun c65 => ?_)
      · -- then_t65
        refine JC.rs ?_
        refine Seq.p rfl Ev.move ?_
        refine Seq.p rfl (Ev.lenSl sl.sl_uint8 (hr := hr.r)) ?_
        refine Seq.callP rfl (fun w hw => refBad) ?_
        refine Seq.p rfl Ev.assign ?_
        refine Seq.p rfl Ev.assign ?_
        refine Seq.storeN [_, _, _, _, _, _] sz.bourseref03_Answer (k := ?_)
        refine Seq.nil ?_
        refine JC.ret ?_
        -- return 2
        show retQ _ _ _ _ _ _ _ _
        refine retI (RVs.t (hs := (RVs.t (hs := (RVs.bA ag.bourseref03_Answer (hs := RVs.nil)))))) (Part.nil _) ?_
        rw [headF, hp, hg, if_neg (by omega), if_pos (by omega)]
        rfl
      · -- else_t65
        refine JC.skip ?_
        refine JC.rs ?_
        refine Seq.p rfl Ev.move ?_
        refine Seq.p rfl Ev.move ?_
        refine Seq.p rfl Ev.move ?_
        refine Seq.p rfl Ev.move ?_
        refine Seq.p rfl (Ev.addN (m := 10) (c := n)) ?_
        refine Seq.p rfl (Ev.cut sl.sl_uint8 (hr := hr.r) (l := 10) (h := 10 + n) (hlo := ⟨_, (by repeat (first | exact Look.here | apply Look.there (hne := rfl) | exact Look.const | apply Look.mix rfl | exact Look.arg0 | apply Look.args | exact Look.func))⟩) (hhi := ⟨_, (by repeat (first | exact Look.here | apply Look.there (hne := rfl) | exact Look.const | apply Look.mix rfl | exact Look.arg0 | apply Look.args | exact Look.func))⟩)) ?_
        refine Seq.p rfl (Ev.strOf (l := (l.drop 10).take n) sl.sl_uint8 it.uint8 st.string (hr := hsub.r)) ?_
        obtain ⟨k, bk, hk, hkk⟩ := natV_form (natF (strOf ((l.drop 10).take n)))
        refine Seq.callP rfl (fun w hw => hk ▸ refNatural) ?_
        refine Seq.p rfl Ev.move ?_
        refine Seq.p rfl Ev.extract ?_
        refine Seq.p rfl Ev.extract ?_
        refine Seq.p rfl Ev.assign ?_
        refine Seq.p rfl Ev.assign ?_
        refine Seq.nil ?_
        refine JC.seq ?_
        refine JC.rs ?_
        refine Seq.p rfl Ev.move ?_
        refine Seq.p rfl Ev.eq ?_
        refine Seq.p rfl Ev.move ?_
        refine Seq.orG (D := [82, 83, 84, 85]) (d := 82) (t := 85) (k := 3) (hn := fun h82 => ?_) (hx := ?_)
        · repeat (first | refine Seq.gn rfl rfl rfl rfl ?_ | refine Seq.gu rfl rfl rfl ?_)
          refine Seq.p rfl Ev.pickT ?_
          exact Seq.nil ⟨rfl, (by repeat (first | with_reducible exact Off.refl | refine Off.upd ?_ rfl | exact Off.mix | refine Off.mix2 ?_ rfl)), Look.here⟩
        apply Exists.intro
        refine ⟨fun h82 => ?_, fun u85 => ?_⟩
        · try simp only [decide_eq_true_eq, decide_eq_false_iff_not, Bool.and_eq_true, Bool.or_eq_true, Bool.not_eq_true', Bool.not_eq_false', Bool.or_eq_false_iff, Bool.and_eq_false_imp] at h82
          refine Seq.gy rfl rfl rfl ?_
          refine Seq.p rfl Ev.move ?_
          refine Seq.gy rfl rfl rfl ?_
          refine Seq.p rfl Ev.not ?_
          refine Seq.p rfl Ev.pickF ?_
          exact Seq.nil ⟨rfl, (by repeat (first | with_reducible exact Off.refl | refine Off.upd ?_ rfl | exact Off.mix | refine Off.mix2 ?_ rfl)), Look.here⟩
        refine Seq.p rfl Ev.move ?_
        refine Seq.orG (D := [86, 87, 88, 89, 90, 91, 92, 93, 94]) (d := 86) (t := 94) (k := 8) (hn := fun h86 => ?_) (hx := ?_)
        · repeat (first | refine Seq.gn rfl rfl rfl rfl ?_ | refine Seq.gu rfl rfl rfl ?_)
          refine Seq.p rfl Ev.pickT ?_
          exact Seq.nil ⟨rfl, (by repeat (first | with_reducible exact Off.refl | refine Off.upd ?_ rfl | exact Off.mix | refine Off.mix2 ?_ rfl)), Look.here⟩
        apply Exists.intro
        refine ⟨fun h86 => ?_, fun u94 => ?_⟩
        · try simp only [decide_eq_true_eq, decide_eq_false_iff_not, Bool.and_eq_true, Bool.or_eq_true, Bool.not_eq_true', Bool.not_eq_false', Bool.or_eq_false_iff, Bool.and_eq_false_imp] at h86
          refine Seq.gy rfl rfl rfl ?_
          refine Seq.p rfl Ev.move ?_
          refine Seq.gy rfl rfl rfl ?_
          refine Seq.p rfl Ev.move ?_
          refine Seq.gy rfl rfl rfl ?_
          refine Seq.p rfl Ev.move ?_
          refine Seq.gy rfl rfl rfl ?_
          refine Seq.p rfl (Ev.addN (m := 10) (c := n)) ?_
          refine Seq.gy rfl rfl rfl ?_
          refine Seq.p rfl (Ev.iaN sl.sl_uint8 (hr := hr.r)) ?_
          refine Seq.gy rfl rfl rfl ?_
          refine Seq.p rfl (Ev.ldE1 sc.uint8 (hr := hr.r)) ?_
          refine Seq.gy rfl rfl rfl ?_
          refine Seq.p rfl Ev.ne ?_
          refine Seq.p rfl Ev.pickF ?_
          exact Seq.nil ⟨rfl, (by repeat (first | with_reducible exact Off.refl | refine Off.upd ?_ rfl | exact Off.mix | refine Off.mix2 ?_ rfl)), Look.here⟩
        refine Seq.nil ?_
        first | refine JC.c (ht := fun c94 => ?_) (hf := fun c94 => ?_) | refine JC.cb (ht := fun c94 => ?_) (hf := fun c94 => ?_)
        · -- then_t94
          refine JC.rs ?_
          refine Seq.p rfl Ev.move ?_
          refine Seq.callP rfl (fun w hw => refBad) ?_
          refine Seq.p rfl Ev.assign ?_
          refine Seq.p rfl Ev.assign ?_
          refine Seq.storeN [_, _, _, _, _, _] sz.bourseref03_Answer (k := ?_)
          refine Seq.nil ?_
          refine JC.ret ?_
          -- return 3
          show retQ _ _ _ _ _ _ _ _
          refine retI (RVs.t (hs := (RVs.t (hs := (RVs.bA ag.bourseref03_Answer (hs := RVs.nil)))))) (Part.nil _) ?_
          have hh : headF l = .bad 10 3 := head_bad hp hg (by omega) hkk c94
          rw [hh]
          rfl
        · -- else_t94
          refine JC.skip ?_
          refine JC.rs ?_
          refine Seq.p rfl Ev.move ?_
          refine Seq.p rfl Ev.move ?_
          refine Seq.p rfl Ev.add ?_
          refine Seq.p rfl (by first | exact Ev.inc | exact Ev.add) ?_
          refine Seq.p rfl Ev.move ?_
          refine Seq.p rfl (Ev.convW it.uint64 it.int) ?_
          refine Seq.p rfl (Ev.buildN [_, _, _, _, _, _] pl.bourseref03_Answer z.bourseref03_Answer) ?_
          refine Seq.p rfl Ev.assign ?_
          refine Seq.p rfl Ev.assign ?_
          refine Seq.storeN [_, _, _, _, _, _] sz.bourseref03_Answer (k := ?_)
          refine Seq.nil ?_
          refine JC.ret ?_
          -- return 4
          show retQ _ _ _ _ _ _ _ _
          refine retI (RVs.t (hs := (RVs.t (hs := (RVs.bA ag.bourseref03_Answer (hs := RVs.nil)))))) (Part.nil _) ?_
          have hh := head_ok hp hg (by omega) hkk c94
          rw [hh.1, IntKind.wrap_i64, show ((k : Int) + 9223372036854775808) % 18446744073709551616 - 9223372036854775808 = (k : Int) by omega]
          show Value.tuple _ = Value.tuple _
          rw [show (10 + (n : Int) + 1) = ((11 + n : Nat) : Int) by omega]
          rfl
end Go.Rx
