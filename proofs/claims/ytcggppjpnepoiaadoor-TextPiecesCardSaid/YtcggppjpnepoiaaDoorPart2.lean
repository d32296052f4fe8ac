/- Parts of the proof. -/
import Derived.Test.YtcggppjpnepoiaaDoorPart1
import Derived.Lib.AtoiAllCases
import Derived.WideLaws
set_option linter.unusedVariables false
set_option linter.unusedSimpArgs false
/- The last field's digits, by the program and by the document; what trails. -/
namespace Go.Rx
open Go Go.RowKit Go.Lib Go.Proofs.YtcggppjpnepoiaaDoor
set_option linter.unusedVariables false
set_option linter.unusedSimpArgs false
def threeL (n : Int) : List Int := [48 + n / 100, 48 + n / 10 % 10, 48 + n % 10]
def lastL (l : List Int) : List Int := [49, 48, 61] ++ threeL (sumB l) ++ [1]
theorem dec_last {m : Nat} (h : m ≤ 255) : decDigits (1000 + m) = [49, UInt8.ofNat (48 + m / 100), UInt8.ofNat (48 + m / 10 % 10), UInt8.ofNat (48 + m % 10)] := by
  have h1 : decDigits ((1000 + m) / 10 / 10) = [UInt8.ofNat (48 + (1000 + m) / 10 / 10 / 10), UInt8.ofNat (48 + (1000 + m) / 10 / 10 % 10)] := decDigits_two (by omega) (by omega)
  have h2 : decDigits ((1000 + m) / 10) = decDigits ((1000 + m) / 10 / 10) ++ [UInt8.ofNat (48 + (1000 + m) / 10 % 10)] := by rw [decDigits, dif_neg (by omega)]
  have h3 : decDigits (1000 + m) = decDigits ((1000 + m) / 10) ++ [UInt8.ofNat (48 + (1000 + m) % 10)] := by rw [decDigits, dif_neg (by omega)]
  rw [h3, h2, h1]
  have e1 : 48 + (1000 + m) / 10 / 10 / 10 = 49 := by omega
  have e2 : (1000 + m) / 10 / 10 % 10 = m / 100 := by omega
  have e3 : (1000 + m) / 10 % 10 = m / 10 % 10 := by omega
  have e4 : (1000 + m) % 10 = m % 10 := by omega
  rw [e1, e2, e3, e4]
  rfl
theorem itoa_last {n : Int} (h : 0 ≤ n ∧ n ≤ 255) : itoa (1000 + n) = (49 :: threeL n).map fun n => UInt8.ofNat n.toNat := by
  obtain ⟨m, rfl⟩ : ∃ m : Nat, n = m := ⟨n.toNat, by omega⟩
  have e : (1000 + (m : Int)) = ((1000 + m : Nat) : Int) := by omega
  rw [e, itoa_nonneg, dec_last (by omega)]
  unfold threeL
  have e1 : (48 + (m : Int) / 100).toNat = 48 + m / 100 := by omega
  have e2 : (48 + (m : Int) / 10 % 10).toNat = 48 + m / 10 % 10 := by omega
  have e3 : (48 + (m : Int) % 10).toNat = 48 + m % 10 := by omega
  simp only [List.map_cons, List.map_nil, e1, e2, e3]
  rfl
theorem strOf_size (l : List Int) : (strOf l).size = l.length := by
  have h3 : (strOf l).size = (strOf l).data.toList.length := by simp
  rw [h3, strOf_toList, List.length_map]
theorem ba_ext {a b : ByteArray} (h : a.data.toList = b.data.toList) : a = b := by
  apply ByteArray.ext
  exact Array.ext' h
theorem strOf_mk (l : List Int) : (⟨(l.map fun n => UInt8.ofNat n.toNat).toArray⟩ : ByteArray) = strOf l := ba_ext (by rw [strOf_toList])
theorem strOf_app (a b : List Int) : strOf (a ++ b) = strOf a ++ strOf b := ba_ext (by rw [strOf_toList, List.map_append]; simp [strOf_toList])
theorem strOf_cut (l : List Int) (i j : Nat) : (strOf l).extract i j = strOf ((l.take j).drop i) := ba_ext (by
  rw [strOf_toList, ByteArray.data_extract, Array.toList_extract, List.extract_eq_take_drop, strOf_toList, List.map_drop, List.map_take, List.drop_take])
theorem textItoa {w : World} {n : Int} (h0 : -9223372036854775808 ≤ n) (h1 : n ≤ 9223372036854775807) (hL : Laid w) : Go.Rx.Spec Go.Proofs.Tryd.prog 41 #[.int .i64 n] w [] (fun u _ => u = .string ⟨(itoa n).toArray⟩) :=
  spec_of_below ⟨Go.Proofs.Tryd.f41, Go.Proofs.Tryd.func41, by kernel_rfl, rfl⟩ ((Go.Proofs.Tryd.strconv_Itoa n h0 h1 w hL.tab).mono (by
    rintro e w' ⟨rfl, k, os, rfl⟩
    exact ⟨rfl, grow_below w k os⟩))
set_option maxHeartbeats 1000000 in
set_option maxRecDepth 100000 in
theorem refThree {w : World} {n : Int} (h : 0 ≤ n ∧ n ≤ 255) : Spec Go.Proofs.Tryd.prog 54 #[.int .i64 n] w [] (fun u _ => u = .string (strOf (threeL n))) := by
  refine Spec.enter (fn := Go.Proofs.Tryd.f54) (n := 18) [.int .i64 n] Go.Proofs.Tryd.func54 (by kernel_rfl) rfl Go.Proofs.Tryd.ntmps54 Go.Proofs.Tryd.results54 rfl (Own.nil _) ?_
  refine JC.rs ?_
  refine Seq.p rfl Ev.assign ?_
  refine Seq.nil ?_
  refine JC.rs ?_
  refine Seq.p rfl Ev.move ?_
  refine Seq.p rfl Ev.quo ?_
  refine Seq.p rfl Ev.add ?_
  refine Seq.p rfl (Ev.convU8 it.int it.uint8) ?_
  refine Seq.p rfl Ev.move ?_
  refine Seq.p rfl Ev.quo ?_
  refine Seq.p rfl Ev.rem ?_
  refine Seq.p rfl Ev.add ?_
  refine Seq.p rfl (Ev.convU8 it.int it.uint8) ?_
  refine Seq.p rfl Ev.move ?_
  refine Seq.p rfl Ev.rem ?_
  refine Seq.p rfl Ev.add ?_
  refine Seq.p rfl (Ev.convU8 it.int it.uint8) ?_
  refine Seq.buildSlN _ (hsl := sl.sl_uint8) (hz := z.uint8) (k := ?_); intro b16
  refine Seq.re (fun w h => Upd.boxOwn h (n := 3) (size := 1) At.z rfl (by omega)) ?_
  refine Seq.p rfl (Ev.strOf (l := threeL n) sl.sl_uint8 it.uint8 st.string (hr := RAt.own (enc := byteEnc) (xs := threeL n) (hs := by simp [threeL]))) ?_
  refine Seq.p rfl Ev.assign ?_
  refine Seq.nil ?_
  refine JC.ret ?_
  -- return 0
  show retQ _ _ _ _ _ _ _ _
  refine ret1 (hp := Part.nil _) (hpost := ?_)
  rfl
set_option maxHeartbeats 1000000 in
set_option maxRecDepth 100000 in
theorem textLast {w : World} {v : Value} {l : List Int} (hr : RSl byteEnc 1 w [] v l) (hB : isBytes l) (hL : Laid w) : Spec Go.Proofs.Tryd.prog 42 #[v] w [] (fun u _ => u = .string (strOf (lastL l))) := by
  have hs := sumB_range l
  have hi : (⟨(itoa (1000 + sumB l)).toArray⟩ : ByteArray) = strOf (49 :: threeL (sumB l)) := by rw [itoa_last hs, strOf_mk]
  refine Spec.enter (fn := Go.Proofs.Tryd.f42) (n := 12) [v] Go.Proofs.Tryd.func42 (by kernel_rfl) rfl Go.Proofs.Tryd.ntmps42 Go.Proofs.Tryd.results42 rfl (Own.nil _) ?_
  refine JC.rs ?_
  refine Seq.p rfl Ev.assign ?_
  refine Seq.nil ?_
  refine JC.rs ?_
  refine Seq.p rfl Ev.move ?_
  refine Seq.callP rfl (fun w hw => textSum (hr.up hw) hB) ?_
  refine Seq.p rfl Ev.add ?_
  refine Seq.callP rfl (fun w hw => hi ▸ textItoa (by omega) (by omega) (hL.upd hw)) ?_
  refine Seq.p rfl Ev.assign ?_
  refine Seq.nil ?_
  refine JC.rs ?_
  refine Seq.p rfl Ev.move ?_
  refine Seq.p rfl (Ev.cutStr (s := strOf (49 :: threeL (sumB l))) (l := 1) (h := 4) st.string (hlo := ⟨_, (by repeat (first | exact Look.here | apply Look.there (hne := rfl) | exact Look.const | apply Look.mix rfl | exact Look.arg0 | apply Look.args | exact Look.func))⟩) (hhi := by rw [strOf_size]; rfl) (h2 := by rw [strOf_size]; exact Nat.le_refl _)) ?_
  rw [strOf_cut, show ((49 :: threeL (sumB l)).take 4).drop 1 = threeL (sumB l) from rfl]
  refine Seq.p rfl (Ev.addStr (h := by rw [strOf_size]; show 3 + 3 ≤ _; decide)) ?_
  rw [show (⟨#[49, 48, 61]⟩ : ByteArray) = strOf [49, 48, 61] from rfl, ← strOf_app]
  refine Seq.p rfl (Ev.addStr (h := by rw [strOf_size]; show 6 + 1 ≤ _; decide)) ?_
  rw [show (⟨#[1]⟩ : ByteArray) = strOf [1] from rfl, ← strOf_app]
  refine Seq.p rfl Ev.assign ?_
  refine Seq.nil ?_
  refine JC.ret ?_
  -- return 0
  show retQ _ _ _ _ _ _ _ _
  refine ret1 (hp := Part.nil _) (hpost := ?_)
  rfl
set_option maxHeartbeats 1000000 in
set_option maxRecDepth 100000 in
theorem refBad {w : World} {a c : Int} : Spec Go.Proofs.Tryd.prog 53 #[.int .i64 a, .int .i64 c] w [] (fun u _ => u = .agg #[.string ⟨#[]⟩, .slice none 0 0, .int .i64 a, .int .i64 c, .bool false, .int .i64 0]) := by
  refine Spec.enter (fn := Go.Proofs.Tryd.f53) (n := 8) [.int .i64 a, .int .i64 c] Go.Proofs.Tryd.func53 (by kernel_rfl) rfl Go.Proofs.Tryd.ntmps53 Go.Proofs.Tryd.results53 rfl (Own.nil _) ?_
  refine JC.rs ?_
  refine Seq.alloc (cs := [_, _, _, _, _, _]) (hz := z.bourseref03_Answer) (k := ?_); intro b4
  refine Seq.nil ?_
  refine JC.rs ?_
  refine Seq.p rfl Ev.move ?_
  refine Seq.p rfl Ev.move ?_
  refine Seq.p rfl (Ev.buildN [_, _, _, _, _, _] pl.bourseref03_Answer z.bourseref03_Answer) ?_
  refine Seq.storeN [_, _, _, _, _, _] sz.bourseref03_Answer (k := ?_)
  refine Seq.nil ?_
  refine JC.ret ?_
  -- return 0
  show retQ _ _ _ _ _ _ _ _
  refine retB1 ag.bourseref03_Answer (hp := Part.nil _) (hpost := ?_)
  rfl
end Go.Rx
/- The beginning of a line: what it is, and the document's head. -/
namespace Go.Rx
open Go Go.RowKit Go.Lib Go.Proofs.YtcggppjpnepoiaaDoor
set_option linter.unusedVariables false
set_option linter.unusedSimpArgs false
def beginL : List Int := [56, 61, 66, 82, 83, 46, 49, 1, 57, 61]
abbrev beginS : ByteArray := ⟨#[56, 61, 66, 82, 83, 46, 49, 1, 57, 61]⟩
theorem begin_at : ∀ i : Fin 10, bAt beginS i.val = beginL[i.val]! := by decide
theorem begin_get {i : Nat} (h : i < 10) : bAt beginS (Int.toNat (i : Int)) = beginL[i]! := begin_at ⟨i, h⟩
def digit (c : Int) : Bool := decide (48 ≤ c) && decide (c ≤ 57)
/-- How many bytes are those of every line's beginning. -/
def preF (l : List Int) : Nat → Nat → Nat
  | 0, i => i
  | k + 1, i => if i < l.length ∧ l[i]! = beginL[i]! then preF l k (i + 1) else i
/-- How many digits stand behind it. -/
def dgF (l : List Int) : Nat → Nat → Nat
  | 0, n => n
  | k + 1, n => if 10 + n < l.length ∧ digit l[10 + n]! = true then dgF l k (n + 1) else n
inductive HeadA
  | bad (at_ why : Int)
  | ok (from_ long : Nat)
def headF (l : List Int) : HeadA :=
  if preF l 10 0 < 10 then (if preF l 10 0 = l.length then .bad (preF l 10 0 : Nat) 20 else .bad (preF l 10 0 : Nat) 3)
  else if 10 + dgF l 5 0 = l.length then .bad l.length 20
  else match natF (strOf ((l.drop 10).take (dgF l 5 0))) with
    | some k => if dgF l 5 0 = 5 ∨ l[10 + dgF l 5 0]! ≠ 1 then .bad 10 3 else .ok (11 + dgF l 5 0) k
    | none => .bad 10 3
def badV (a c : Int) : Value := .agg #[.string ⟨#[]⟩, .slice none 0 0, .int .i64 a, .int .i64 c, .bool false, .int .i64 0]
def headV : HeadA → Value
  | .bad a c => .tuple #[.int .i64 0, .int .i64 0, badV a c]
  | .ok f k => .tuple #[.int .i64 (f : Int), .int .i64 (k : Int), badV 0 0]
theorem dgF_le (l : List Int) : ∀ (k n : Nat), dgF l k n ≤ n + k
  | 0, n => Nat.le_refl _
  | k + 1, n => by
    unfold dgF
    split
    · have := dgF_le l k (n + 1); omega
    · omega
theorem preF_le (l : List Int) : ∀ (k i : Nat), preF l k i ≤ i + k
  | 0, n => Nat.le_refl _
  | k + 1, n => by
    unfold preF
    split
    · have := preF_le l k (n + 1); omega
    · omega
theorem preF_len (l : List Int) : ∀ (k i : Nat), i ≤ l.length → preF l k i ≤ l.length
  | 0, n, h => h
  | k + 1, n, h => by
    unfold preF
    split
    · exact preF_len l k (n + 1) (by omega)
    · omega
theorem dgF_len (l : List Int) : ∀ (k n : Nat), 10 + n ≤ l.length → 10 + dgF l k n ≤ l.length
  | 0, n, h => h
  | k + 1, n, h => by
    unfold dgF
    split
    · exact dgF_len l k (n + 1) (by omega)
    · omega
theorem natV_form (o : Option Nat) : ∃ (k : Nat) (b : Bool), natV o = .tuple #[.int .u64 (k : Int), .bool b] ∧ o = if b = true then some k else none := by
  cases o with
  | none => exact ⟨0, false, rfl, rfl⟩
  | some k => exact ⟨k, true, rfl, rfl⟩
theorem natRest_lt : ∀ (l : List UInt8) (n k : Nat), natRest l n = some k → k < (n + 1) * 10 ^ l.length
  | [], n, k, h => by
    simp only [natRest, Option.some.injEq] at h
    simp
    omega
  | c :: r, n, k, h => by
    simp only [natRest] at h
    split at h
    · cases h
    · split at h
      · cases h
      · have h1 := natRest_lt r _ k h
        rw [List.length_cons, Nat.pow_succ]
        have h2 : (n * 10 + (c.toNat - 48) + 1) ≤ (n + 1) * 10 := by omega
        have h3 := Nat.mul_le_mul_right (10 ^ r.length) h2
        have h4 : (n + 1) * 10 * 10 ^ r.length = (n + 1) * (10 ^ r.length * 10) := by rw [Nat.mul_assoc, Nat.mul_comm 10]
        omega
theorem natF_lt {s : ByteArray} {k : Nat} (h : natF s = some k) : k < 10 ^ s.size := by
  unfold natF at h
  split at h
  · cases h
  · have := natRest_lt _ _ _ h
    simpa using this
theorem head_bad {l : List Int} {n k : Nat} {bk : Bool} (hp : preF l 10 0 = 10) (hg : dgF l 5 0 = n) (hl : ¬ 10 + n = l.length) (hkk : natF (strOf ((l.drop 10).take n)) = if bk = true then some k else none)
    (h : (decide ((n : Int) = 5) || !bk || decide (l[10 + n]! ≠ 1)) = true) : headF l = .bad 10 3 := by
  rw [headF, hp, hg, if_neg (by omega), if_neg hl, hkk]
  cases bk with
  | false => rfl
  | true =>
    simp only [if_true]
    rw [if_pos]
    simp only [Bool.not_true, Bool.or_false, Bool.or_eq_true, decide_eq_true_eq] at h
    rcases h with h | h
    · exact .inl (by omega)
    · exact .inr h
theorem head_ok {l : List Int} {n k : Nat} {bk : Bool} (hp : preF l 10 0 = 10) (hg : dgF l 5 0 = n) (hl : ¬ 10 + n = l.length) (hkk : natF (strOf ((l.drop 10).take n)) = if bk = true then some k else none)
    (h : (decide ((n : Int) = 5) || !bk || decide (l[10 + n]! ≠ 1)) = false) : headF l = .ok (11 + n) k ∧ k < 10000 := by
  simp only [Bool.or_eq_false_iff, Bool.not_eq_false', decide_eq_false_iff_not] at h
  obtain ⟨⟨h1, rfl⟩, h2⟩ := h
  have hn : n ≤ 5 := by rw [← hg]; exact dgF_le l 5 0
  simp only [if_true] at hkk
  refine ⟨?_, ?_⟩
  · rw [headF, hp, hg, if_neg (by omega), if_neg hl, hkk]
    simp only
    rw [if_neg]
    rintro (h | h)
    · omega
    · exact h2 h
  · have h3 := natF_lt hkk
    rw [strOf_size] at h3
    have h4 : ((l.drop 10).take n).length ≤ 4 := by rw [List.length_take]; omega
    exact Nat.lt_of_lt_of_le h3 (Nat.pow_le_pow_right (by decide) h4)
set_option maxHeartbeats 2000000 in
set_option maxRecDepth 100000 in
theorem refHead {w : World} {v : Value} {l : List Int} (hr : RSl byteEnc 1 w [] v l) (hB : isBytes l) :
    Spec Go.Proofs.Tryd.prog 52 #[v] w [] (fun u _ => u = headV (headF l)) := by
  have hsm := hr.small
  refine Spec.enter (fn := Go.Proofs.Tryd.f52) (n := 104) [v] Go.Proofs.Tryd.func52 (by kernel_rfl) rfl Go.Proofs.Tryd.ntmps52 Go.Proofs.Tryd.results52 rfl (Own.nil _) ?_
  refine JC.rs ?_
  refine Seq.p rfl Ev.assign ?_
  refine Seq.p rfl Ev.assign ?_
  refine Seq.alloc (cs := [_, _, _, _, _, _]) (hz := z.bourseref03_Answer) (k := ?_); intro b4
  refine Seq.nil ?_
  refine JC.seq ?_
  refine JC.rs ?_
  refine Seq.p rfl Ev.assign ?_
  refine Seq.nil ?_
  refine JC.blk ?_
  refine JC.loop (α := Nat) (I := fun i e1 H1 => Has [2, 3, 5, 10, 11, 12, 13, 14, 15, 16, 17, 18, 19, 20, 21, 22, 23, 24, 25, 26, 27, 28, 29] [(5, .int .i64 (i : Int))] _ e1 ∧ H1 = _ ∧ i ≤ 10 ∧ i ≤ l.length ∧ preF l (10 - i) i = preF l 10 0) (μ := fun i => 10 - i) 0 ⟨Has.mk Off.refl (allLook_cons (by repeat (first | exact Look.here | apply Look.there (hne := rfl) | exact Look.const | apply Look.mix rfl | exact Look.arg0 | apply Look.args | exact Look.func)) allLook_nil), rfl, by omega, by omega, rfl⟩ ?_
  rintro i _ _ ⟨⟨u, rfl⟩, rfl, hi, hil, hq⟩; dsimp only [setL]
  refine JC.seq ?_
  refine JC.rs ?_
  refine Seq.p rfl Ev.move ?_
  refine Seq.p rfl Ev.lt ?_
  refine Seq.nil ?_
  first | refine JC.c (ht := fun c11 => ?_) (hf := fun c11 => ?_) | refine JC.cb (ht := fun c11 => ?_) (hf := fun c11 => ?_)
  · -- then_t11
    have hi2 : i < 10 := by omega
    rw [show 10 - i = (10 - (i + 1)) + 1 by omega, preF] at hq
    refine JC.skip ?_
    refine JC.seq ?_
    refine JC.blk ?_
    refine JC.seq ?_
    refine JC.rs ?_
    refine Seq.p rfl Ev.move ?_
    refine Seq.p rfl Ev.move ?_
    refine Seq.p rfl (Ev.lenSl sl.sl_uint8 (hr := hr.r)) ?_
    refine Seq.p rfl Ev.eq ?_
    refine Seq.nil ?_
    first | refine JC.c (ht := fun c17 => ?_) (hf := fun c17 => ?_) | refine JC.cb (ht := fun c17 => ?_) (hf := fun c17 => ?_)
    · -- then_t17
      refine JC.rs ?_
      refine Seq.p rfl Ev.move ?_
      refine Seq.p rfl (Ev.lenSl sl.sl_uint8 (hr := hr.r)) ?_
      refine Seq.callP rfl (fun w hw => refBad) ?_
      refine Seq.p rfl Ev.assign ?_
      refine Seq.p rfl Ev.assign ?_
      refine Seq.storeN [_, _, _, _, _, _] sz.bourseref03_Answer (k := ?_)
      refine Seq.nil ?_
      refine JC.ret ?_
      -- return 0
      show retQ _ _ _ _ _ _ _ _
      refine retI (RVs.t (hs := (RVs.t (hs := (RVs.bA ag.bourseref03_Answer (hs := RVs.nil)))))) (Part.nil _) ?_
      rw [if_neg (by omega)] at hq
      rw [headF, ← hq, if_pos hi2, if_pos (by omega)]
      rw [show (l.length : Int) = (i : Int) by omega]
      rfl
    · -- else_t17
      have hi3 : i < l.length := by omega
      refine JC.skip ?_
      refine JC.qs mixed (by kernel_rfl) ?_
      refine Qui.p rfl Ev.move ?_
      refine Qui.p rfl Ev.move ?_
      refine Qui.p rfl (Ev.iaN sl.sl_uint8 (hr := hr.r)) ?_
      refine Qui.p rfl (Ev.ldE1 sc.uint8 (hr := hr.r)) ?_
      refine Qui.p rfl Ev.move ?_
      refine Qui.p rfl (Ev.indexStr st.string (hi := ⟨by omega, by show (i : Int) < 10; omega⟩)) ?_
      refine Qui.p rfl Ev.ne ?_
      refine Qui.nil ?_
      first | refine JC.c (ht := fun c27 => ?_) (hf := fun c27 => ?_) | refine JC.cb (ht := fun c27 => ?_) (hf := fun c27 => ?_)
      · -- then_t27
        refine JC.rs ?_
        refine Seq.p rfl Ev.move ?_
        refine Seq.callP rfl (fun w hw => refBad) ?_
        refine Seq.p rfl Ev.assign ?_
        refine Seq.p rfl Ev.assign ?_
        refine Seq.storeN [_, _, _, _, _, _] sz.bourseref03_Answer (k := ?_)
        refine Seq.nil ?_
        refine JC.ret ?_
        -- return 1
        show retQ _ _ _ _ _ _ _ _
        refine retI (RVs.t (hs := (RVs.t (hs := (RVs.bA ag.bourseref03_Answer (hs := RVs.nil)))))) (Part.nil _) ?_
        rw [begin_get hi2] at c27
        rw [if_neg (fun h => c27 h.2)] at hq
        rw [headF, ← hq, if_pos hi2, if_neg (by omega)]
        rfl
      · -- else_t27
        refine JC.skip ?_
        refine JC.reg ?_
        refine Seq.p rfl Ev.move ?_
        refine Seq.p rfl (by first | exact Ev.inc | exact Ev.add) ?_
        refine Seq.p rfl Ev.assign ?_
        refine Seq.nil ?_
        rw [begin_get hi2] at c27
        rw [if_pos ⟨hi3, Classical.not_not.1 c27⟩] at hq
        exact ⟨i + 1, _, Part.refl _, ⟨Has.mk (by repeat (first | refine Off.upd ?_ rfl | exact Off.mix | refine Off.mix2 ?_ rfl | exact Off.refl)) (allLook_cons (by repeat (first | exact Look.here | apply Look.there (hne := rfl) | exact Look.const | apply Look.mix rfl | exact Look.arg0 | apply Look.args | exact Look.func)) allLook_nil), rfl, by omega, by omega, hq⟩, by omega⟩
  · -- else_t11
    obtain rfl : i = 10 := by omega
    have hp : preF l 10 0 = 10 := hq.symm
    refine JC.exit ?_ -- 0
    refine JC.rs ?_
    refine Seq.p rfl Ev.assign ?_
    refine Seq.nil ?_
    refine JC.rs ?_
    refine Seq.p rfl Ev.assign ?_
    refine Seq.nil ?_
    refine JC.seq ?_
    refine JC.blk ?_
    refine JC.loop (α := Nat) (I := fun n e1 H1 => Has [7, 30, 31, 32, 33, 34, 35, 36, 37, 38, 39, 40, 41, 42, 43, 44, 45, 46, 47, 48, 49, 50, 51, 52, 53, 54, 55, 56, 57, 58, 59] [(7, .int .i64 (n : Int))] _ e1 ∧ H1 = _ ∧ n ≤ 5 ∧ 10 + n ≤ l.length ∧ dgF l (5 - n) n = dgF l 5 0) (μ := fun n => 5 - n) 0 ⟨Has.mk Off.refl (allLook_cons (by repeat (first | exact Look.here | apply Look.there (hne := rfl) | exact Look.const | apply Look.mix rfl | exact Look.arg0 | apply Look.args | exact Look.func)) allLook_nil), rfl, by omega, by omega, rfl⟩ ?_
    rintro n _ _ ⟨⟨u, rfl⟩, rfl, hn, hnl, hd⟩; dsimp only [setL]
    refine JC.seq ?_
    refine JC.rs ?_
    refine Seq.p rfl Ev.move ?_
    refine Seq.p rfl Ev.lt ?_
    refine Seq.p rfl Ev.move ?_
    refine Seq.andG (D := [32, 33, 34, 35, 36, 37, 38, 39]) (d := 32) (t := 39) (k := 7) (hn := fun h32 => ?_) (hx := ?_)
    · repeat (first | refine Seq.gn rfl rfl rfl rfl ?_ | refine Seq.gu rfl rfl rfl ?_)
      refine Seq.p rfl Ev.pickF ?_
      exact Seq.nil ⟨rfl, (by repeat (first | with_reducible exact Off.refl | refine Off.upd ?_ rfl | exact Off.mix | refine Off.mix2 ?_ rfl)), Look.here⟩
    apply Exists.intro
    refine ⟨fun h32 => ?_, fun u39 => ?_⟩
    · try simp only [decide_eq_true_eq, decide_eq_false_iff_not, Bool.and_eq_true, Bool.or_eq_true, Bool.not_eq_true', Bool.not_eq_false', Bool.or_eq_false_iff, Bool.and_eq_false_imp] at h32
      refine Seq.gy rfl rfl rfl ?_
      refine Seq.p rfl Ev.move ?_
      refine Seq.gy rfl rfl rfl ?_
      refine Seq.p rfl Ev.move ?_
      refine Seq.gy rfl rfl rfl ?_
      refine Seq.p rfl (Ev.addN (m := 10) (c := n)) ?_
      refine Seq.gy rfl rfl rfl ?_
      refine Seq.p rfl Ev.move ?_
      refine Seq.gy rfl rfl rfl ?_
      refine Seq.p rfl (Ev.lenSl sl.sl_uint8 (hr := hr.r)) ?_
      refine Seq.gy rfl rfl rfl ?_
      refine Seq.p rfl Ev.lt ?_
      refine Seq.p rfl Ev.pickT ?_
      exact Seq.nil ⟨rfl, (by repeat (first | with_reducible exact Off.refl | refine Off.upd ?_ rfl | exact Off.mix | refine Off.mix2 ?_ rfl)), Look.here⟩
    refine Seq.p rfl Ev.move ?_
    refine Seq.andG (D := [40, 41, 42, 43, 44, 45, 46, 47, 48]) (d := 40) (t := 48) (k := 8) (hn := fun h40 => ?_) (hx := ?_)
    · repeat (first | refine Seq.gn rfl rfl rfl rfl ?_ | refine Seq.gu rfl rfl rfl ?_)
      refine Seq.p rfl Ev.pickF ?_
      exact Seq.nil ⟨rfl, (by repeat (first | with_reducible exact Off.refl | refine Off.upd ?_ rfl | exact Off.mix | refine Off.mix2 ?_ rfl)), Look.here⟩
    apply Exists.intro
    refine ⟨fun h40 => ?_, fun u48 => ?_⟩
    · try simp only [decide_eq_true_eq, decide_eq_false_iff_not, Bool.and_eq_true, Bool.or_eq_true, Bool.not_eq_true', Bool.not_eq_false', Bool.or_eq_false_iff, Bool.and_eq_false_imp] at h40
      refine Seq.gy rfl rfl rfl ?_
      refine Seq.p rfl Ev.move ?_
      refine Seq.gy rfl rfl rfl ?_
      refine Seq.p rfl Ev.move ?_
      refine Seq.gy rfl rfl rfl ?_
      refine Seq.p rfl Ev.move ?_
      refine Seq.gy rfl rfl rfl ?_
      refine Seq.p rfl (Ev.addN (m := 10) (c := n)) ?_
      refine Seq.gy rfl rfl rfl ?_
      refine Seq.p rfl (Ev.iaN sl.sl_uint8 (hr := hr.r)) ?_
      refine Seq.gy rfl rfl rfl ?_
      refine Seq.p rfl (Ev.ldE1 sc.uint8 (hr := hr.r)) ?_
      refine Seq.gy rfl rfl rfl ?_
      refine Seq.p rfl Ev.ge ?_
      refine Seq.p rfl Ev.pickT ?_
      exact Seq.nil ⟨rfl, (by repeat (first | with_reducible exact Off.refl | refine Off.upd ?_ rfl | exact Off.mix | refine Off.mix2 ?_ rfl)), Look.here⟩
    refine Seq.p rfl Ev.move ?_
    refine Seq.andG (D := [49, 50, 51, 52, 53, 54, 55, 56, 57]) (d := 49) (t := 57) (k := 8) (hn := fun h49 => ?_) (hx := ?_)
    · repeat (first | refine Seq.gn rfl rfl rfl rfl ?_ | refine Seq.gu rfl rfl rfl ?_)
      refine Seq.p rfl Ev.pickF ?_
      exact Seq.nil ⟨rfl, (by repeat (first | with_reducible exact Off.refl | refine Off.upd ?_ rfl | exact Off.mix | refine Off.mix2 ?_ rfl)), Look.here⟩
    apply Exists.intro
    refine ⟨fun h49 => ?_, fun u57 => ?_⟩
    · try simp only [decide_eq_true_eq, decide_eq_false_iff_not, Bool.and_eq_true, Bool.or_eq_true, Bool.not_eq_true', Bool.not_eq_false', Bool.or_eq_false_iff, Bool.and_eq_false_imp] at h49
      refine Seq.gy rfl rfl rfl ?_
      refine Seq.p rfl Ev.move ?_
      refine Seq.gy rfl rfl rfl ?_
      refine Seq.p rfl Ev.move ?_
      refine Seq.gy rfl rfl rfl ?_
      refine Seq.p rfl Ev.move ?_
      refine Seq.gy rfl rfl rfl ?_
      refine Seq.p rfl (Ev.addN (m := 10) (c := n)) ?_
      refine Seq.gy rfl rfl rfl ?_
      refine Seq.p rfl (Ev.iaN sl.sl_uint8 (hr := hr.r)) ?_
      refine Seq.gy rfl rfl rfl ?_
      refine Seq.p rfl (Ev.ldE1 sc.uint8 (hr := hr.r)) ?_
      refine Seq.gy rfl rfl rfl ?_
      refine Seq.p rfl Ev.le ?_
      refine Seq.p rfl Ev.pickT ?_
      exact Seq.nil ⟨rfl, (by repeat (first | with_reducible exact Off.refl | refine Off.upd ?_ rfl | exact Off.mix | refine Off.mix2 ?_ rfl)), Look.here⟩
    refine Seq.nil ?_
    first | refine JC.c (ht := fun c57 => ?_) (hf := fun c57 => ?_) | refine JC.cb (ht := fun c57 => ?_) (hf := fun c57 => ?_)
    · -- then_t57
      refine JC.skip ?_
      refine JC.blk ?_
      refine JC.reg ?_
      refine Seq.p rfl Ev.move ?_
      refine Seq.p rfl (by first | exact Ev.inc | exact Ev.add) ?_
      refine Seq.p rfl Ev.assign ?_
      refine Seq.nil ?_
      simp only [Bool.and_eq_true, decide_eq_true_eq] at c57
      rw [show 5 - n = (5 - (n + 1)) + 1 by omega, dgF, if_pos ⟨by omega, by unfold digit; simp only [Bool.and_eq_true, decide_eq_true_eq]; omega⟩] at hd
      exact ⟨n + 1, _, Part.refl _, ⟨Has.mk (by repeat (first | refine Off.upd ?_ rfl | exact Off.mix | refine Off.mix2 ?_ rfl | exact Off.refl)) (allLook_cons (by repeat (first | exact Look.here | apply Look.there (hne := rfl) | exact Look.const | apply Look.mix rfl | exact Look.arg0 | apply Look.args | exact Look.func)) allLook_nil), rfl, by omega, by omega, hd⟩, by omega⟩
    · -- else_t57
      have hg : dgF l 5 0 = n := by
        rw [← hd]
        rcases Nat.lt_or_ge n 5 with h5 | h5
        · rw [show 5 - n = (5 - (n + 1)) + 1 by omega, dgF, if_neg]
          rintro ⟨h1, h2⟩
          simp only [Bool.and_eq_false_iff, decide_eq_false_iff_not] at c57
          unfold digit at h2
          simp only [Bool.and_eq_true, decide_eq_true_eq] at h2
          omega
        · rw [show 5 - n = 0 by omega]; rfl
      have hsub : RSl byteEnc 1 w [] (subSl v 10 (10 + n) 1) ((l.drop 10).take n) := by
        have h2 := hr.sub (lo := 10) (hi := 10 + n) (by omega) (by omega)
        rwa [show 10 + n - 10 = n by omega] at h2
      refine JC.exit ?_ -- 2
      refine JC.seq ?_
      refine JC.rs ?_
      refine Seq.p rfl Ev.move ?_
      refine Seq.p rfl Ev.move ?_
      refine Seq.p rfl (Ev.addN (m := 10) (c := n)) ?_
      refine Seq.p rfl Ev.move ?_
      refine Seq.p rfl (Ev.lenSl sl.sl_uint8 (hr := hr.r)) ?_
      refine Seq.p rfl Ev.eq ?_
      refine Seq.nil ?_
      first | refine JC.c (ht := fun c65 => ?_) (hf := fun c65 => ?_) | refine JC.cb (ht := fun c65 => ?_) (hf := fun c65 => ?_)
      · -- then_t65
        refine JC.rs ?_
        refine Seq.p rfl Ev.move ?_
        refine Seq.p rfl (Ev.lenSl sl.sl_uint8 (hr := hr.r)) ?_
        refine Seq.callP rfl (fun w hw => refBad) ?_
        refine Seq.p rfl Ev.assign ?_
        refine Seq.p rfl Ev.assign ?_
        refine Seq.storeN [_, _, _, _, _, _] sz.bourseref03_Answer (k := ?_)
        refine Seq.nil ?_
        refine JC.ret ?_
        -- return 2
        show retQ _ _ _ _ _ _ _ _
        refine retI (RVs.t (hs := (RVs.t (hs := (RVs.bA ag.bourseref03_Answer (hs := RVs.nil)))))) (Part.nil _) ?_
        rw [headF, hp, hg, if_neg (by omega), if_pos (by omega)]
        rfl
      · -- else_t65
        refine JC.skip ?_
        refine JC.rs ?_
        refine Seq.p rfl Ev.move ?_
        refine Seq.p rfl Ev.move ?_
        refine Seq.p rfl Ev.move ?_
        refine Seq.p rfl Ev.move ?_
        refine Seq.p rfl (Ev.addN (m := 10) (c := n)) ?_
        refine Seq.p rfl (Ev.cut sl.sl_uint8 (hr := hr.r) (l := 10) (h := 10 + n) (hlo := ⟨_, (by repeat (first | exact Look.here | apply Look.there (hne := rfl) | exact Look.const | apply Look.mix rfl | exact Look.arg0 | apply Look.args | exact Look.func))⟩) (hhi := ⟨_, (by repeat (first | exact Look.here | apply Look.there (hne := rfl) | exact Look.const | apply Look.mix rfl | exact Look.arg0 | apply Look.args | exact Look.func))⟩)) ?_
        refine Seq.p rfl (Ev.strOf (l := (l.drop 10).take n) sl.sl_uint8 it.uint8 st.string (hr := hsub.r)) ?_
        obtain ⟨k, bk, hk, hkk⟩ := natV_form (natF (strOf ((l.drop 10).take n)))
        refine Seq.callP rfl (fun w hw => hk ▸ refNatural) ?_
        refine Seq.p rfl Ev.move ?_
        refine Seq.p rfl Ev.extract ?_
        refine Seq.p rfl Ev.extract ?_
        refine Seq.p rfl Ev.assign ?_
        refine Seq.p rfl Ev.assign ?_
        refine Seq.nil ?_
        refine JC.seq ?_
        refine JC.rs ?_
        refine Seq.p rfl Ev.move ?_
        refine Seq.p rfl Ev.eq ?_
        refine Seq.p rfl Ev.move ?_
        refine Seq.orG (D := [82, 83, 84, 85]) (d := 82) (t := 85) (k := 3) (hn := fun h82 => ?_) (hx := ?_)
        · repeat (first | refine Seq.gn rfl rfl rfl rfl ?_ | refine Seq.gu rfl rfl rfl ?_)
          refine Seq.p rfl Ev.pickT ?_
          exact Seq.nil ⟨rfl, (by repeat (first | with_reducible exact Off.refl | refine Off.upd ?_ rfl | exact Off.mix | refine Off.mix2 ?_ rfl)), Look.here⟩
        apply Exists.intro
        refine ⟨fun h82 => ?_, fun u85 => ?_⟩
        · try simp only [decide_eq_true_eq, decide_eq_false_iff_not, Bool.and_eq_true, Bool.or_eq_true, Bool.not_eq_true', Bool.not_eq_false', Bool.or_eq_false_iff, Bool.and_eq_false_imp] at h82
          refine Seq.gy rfl rfl rfl ?_
          refine Seq.p rfl Ev.move ?_
          refine Seq.gy rfl rfl rfl ?_
          refine Seq.p rfl Ev.not ?_
          refine Seq.p rfl Ev.pickF ?_
          exact Seq.nil ⟨rfl, (by repeat (first | with_reducible exact Off.refl | refine Off.upd ?_ rfl | exact Off.mix | refine Off.mix2 ?_ rfl)), Look.here⟩
        refine Seq.p rfl Ev.move ?_
        refine Seq.orG (D := [86, 87, 88, 89, 90, 91, 92, 93, 94]) (d := 86) (t := 94) (k := 8) (hn := fun h86 => ?_) (hx := ?_)
        · repeat (first | refine Seq.gn rfl rfl rfl rfl ?_ | refine Seq.gu rfl rfl rfl ?_)
          refine Seq.p rfl Ev.pickT ?_
          exact Seq.nil ⟨rfl, (by repeat (first | with_reducible exact Off.refl | refine Off.upd ?_ rfl | exact Off.mix | refine Off.mix2 ?_ rfl)), Look.here⟩
        apply Exists.intro
        refine ⟨fun h86 => ?_, fun u94 => ?_⟩
        · try simp only [decide_eq_true_eq, decide_eq_false_iff_not, Bool.and_eq_true, Bool.or_eq_true, Bool.not_eq_true', Bool.not_eq_false', Bool.or_eq_false_iff, Bool.and_eq_false_imp] at h86
          refine Seq.gy rfl rfl rfl ?_
          refine Seq.p rfl Ev.move ?_
          refine Seq.gy rfl rfl rfl ?_
          refine Seq.p rfl Ev.move ?_
          refine Seq.gy rfl rfl rfl ?_
          refine Seq.p rfl Ev.move ?_
          refine Seq.gy rfl rfl rfl ?_
          refine Seq.p rfl (Ev.addN (m := 10) (c := n)) ?_
          refine Seq.gy rfl rfl rfl ?_
          refine Seq.p rfl (Ev.iaN sl.sl_uint8 (hr := hr.r)) ?_
          refine Seq.gy rfl rfl rfl ?_
          refine Seq.p rfl (Ev.ldE1 sc.uint8 (hr := hr.r)) ?_
          refine Seq.gy rfl rfl rfl ?_
          refine Seq.p rfl Ev.ne ?_
          refine Seq.p rfl Ev.pickF ?_
          exact Seq.nil ⟨rfl, (by repeat (first | with_reducible exact Off.refl | refine Off.upd ?_ rfl | exact Off.mix | refine Off.mix2 ?_ rfl)), Look.here⟩
        refine Seq.nil ?_
        first | refine JC.c (ht := fun c94 => ?_) (hf := fun c94 => ?_) | refine JC.cb (ht := fun c94 => ?_) (hf := fun c94 => ?_)
        · -- then_t94
          refine JC.rs ?_
          refine Seq.p rfl Ev.move ?_
          refine Seq.callP rfl (fun w hw => refBad) ?_
          refine Seq.p rfl Ev.assign ?_
          refine Seq.p rfl Ev.assign ?_
          refine Seq.storeN [_, _, _, _, _, _] sz.bourseref03_Answer (k := ?_)
          refine Seq.nil ?_
          refine JC.ret ?_
          -- return 3
          show retQ _ _ _ _ _ _ _ _
          refine retI (RVs.t (hs := (RVs.t (hs := (RVs.bA ag.bourseref03_Answer (hs := RVs.nil)))))) (Part.nil _) ?_
          have hh : headF l = .bad 10 3 := head_bad hp hg (by omega) hkk c94
          rw [hh]
          rfl
        · -- else_t94
          refine JC.skip ?_
          refine JC.rs ?_
          refine Seq.p rfl Ev.move ?_
          refine Seq.p rfl Ev.move ?_
          refine Seq.p rfl Ev.add ?_
          refine Seq.p rfl (by first | exact Ev.inc | exact Ev.add) ?_
          refine Seq.p rfl Ev.move ?_
          refine Seq.p rfl (Ev.convW it.uint64 it.int) ?_
          refine Seq.p rfl (Ev.buildN [_, _, _, _, _, _] pl.bourseref03_Answer z.bourseref03_Answer) ?_
          refine Seq.p rfl Ev.assign ?_
          refine Seq.p rfl Ev.assign ?_
          refine Seq.storeN [_, _, _, _, _, _] sz.bourseref03_Answer (k := ?_)
          refine Seq.nil ?_
          refine JC.ret ?_
          -- return 4
          show retQ _ _ _ _ _ _ _ _
          refine retI (RVs.t (hs := (RVs.t (hs := (RVs.bA ag.bourseref03_Answer (hs := RVs.nil)))))) (Part.nil _) ?_
          have hh := head_ok hp hg (by omega) hkk c94
          rw [hh.1, IntKind.wrap_i64, show ((k : Int) + 9223372036854775808) % 18446744073709551616 - 9223372036854775808 = (k : Int) by omega]
          show Value.tuple _ = Value.tuple _
          rw [show (10 + (n : Int) + 1) = ((11 + n : Nat) : Int) by omega]
          rfl
end Go.Rx
/- Atoi and Itoa read and write what Natural reads; errors compared with nil. -/
namespace Go.Rx
open Go Go.RowKit Go.Lib Go.Proofs.YtcggppjpnepoiaaDoor
set_option linter.unusedVariables false
set_option linter.unusedSimpArgs false
/-- An error, or none. -/
def ErrV (er : Value) (b : Bool) : Prop := (b = false ∧ er = .nilIface) ∨ (b = true ∧ ∃ t p, er = .iface t p)
section
variable {P : Program} {w0 : World} {Cs H : List Chunk} {e : Env} {ty tx ty' : TypeId} {x : Operand}
theorem Ev.neErr {er : Value} {b : Bool} (h : ErrV er b) (ht : P.underlying tx = some (.interface (P.methodsAt tx))) (hx : Look e x er := by repeat (first | exact Look.here | apply Look.there (hne := rfl) | exact Look.const | apply Look.mix rfl | exact Look.arg0 | apply Look.args | exact Look.func)) : Ev P w0 Cs H e (.binOp .neq tx x (.const .nilIface) ty') ty (.bool b) := by
  intro w _ d pos af g
  replace hx := hx.eq
  rcases h with ⟨rfl, rfl⟩ | ⟨rfl, t, p, rfl⟩
  · have e1 : ev e (.const .nilIface) = .nilIface := rfl
    have e2 : eqGuard .neq tx x (.const .nilIface) .nilIface .nilIface = pure () := by cases x <;> rfl
    have e3 : (binOp .neq tx .nilIface .nilIface).run P w = .ok (.bool false) w := run_neq_nil_nil (h := ht) ..
    simp [execOp, hx, e1, e2, e3]
  · have e1 : ev e (.const .nilIface) = .nilIface := rfl
    have e2 : eqGuard .neq tx x (.const .nilIface) (.iface t p) .nilIface = pure () := rfl
    have e3 : (binOp .neq tx (.iface t p) .nilIface).run P w = .ok (.bool true) w := run_neq_held_nil (h := ht) ..
    simp [execOp, hx, e1, e2, e3]
end
def atoiOk (s : ByteArray) : Option Int := match atoiAll s.data.toList with | .ok n => some n | _ => none
theorem textAtoi {w : World} {s : ByteArray} (hs : s.size ≤ 281474976710656) (hL : Laid w) : Spec Go.Proofs.Tryd.prog 76 #[.string s] w [] (fun u H' => ∃ n er b, u = .tuple #[.int .i64 n, er] ∧ H' = [] ∧ ErrV er b ∧ (atoiOk s = if b = true then none else some n) ∧ -9223372036854775808 ≤ n ∧ n ≤ 9223372036854775807) := by
  obtain ⟨⟨t1, p1, h1⟩, t2, p2, h2⟩ := And.intro hL.syn hL.rng
  refine ⟨⟨Go.Proofs.Tryd.f76, Go.Proofs.Tryd.func76, by kernel_rfl, rfl⟩, ?_⟩
  cases hq : atoiAll s.data.toList with
  | ok n =>
    refine (Go.Proofs.Tryd.strconv_Atoi_ok s (by omega) n hq w).mono ?_
    rintro e w' ⟨rfl, hw⟩
    have hb : Below w.heap.size w w' := by
      rcases hw with rfl | ⟨t, rfl⟩
      · exact Below.refl _ _
      · exact Lib.bytesWorld_below _ _ _
    exact ⟨_, [], rfl, upd_of_below hb, n, .nilIface, false, rfl, rfl, .inl ⟨rfl, rfl⟩, by unfold atoiOk; rw [hq]; rfl, atoiAll_bounds hq⟩
  | range =>
    refine (Go.Proofs.Tryd.strconv_Atoi_range_var s hs hq t2 p2 w h2).mono ?_
    rintro e w' ⟨N, rfl, -, -, hb⟩
    exact ⟨_, [], rfl, upd_of_below hb, _, _, true, rfl, rfl, .inr ⟨rfl, _, _, rfl⟩, by unfold atoiOk; rw [hq]; rfl, by unfold atoiSat; split <;> decide⟩
  | _ =>
    refine (Go.Proofs.Tryd.strconv_Atoi_syntax_var s hs (hq.trans rfl) t1 p1 w h1).mono ?_
    rintro e w' ⟨N, rfl, -, -, hb⟩
    exact ⟨_, [], rfl, upd_of_below hb, _, _, true, rfl, rfl, .inr ⟨rfl, _, _, rfl⟩, by unfold atoiOk; rw [hq]; rfl, by decide⟩
theorem dec_digits : ∀ (u : Nat), ∀ c ∈ decDigits u, 48 ≤ c.toNat ∧ c.toNat ≤ 57 := by
  intro u
  induction u using Nat.strongRecOn with
  | _ u ih =>
    have hone : ∀ d, d ≤ 9 → 48 ≤ (UInt8.ofNat (48 + d)).toNat ∧ (UInt8.ofNat (48 + d)).toNat ≤ 57 := by
      intro d hd
      rw [UInt8.toNat_ofNat']
      omega
    intro c hc
    by_cases h : u < 10
    · rw [decDigits_one h] at hc
      rw [List.mem_singleton.1 hc]
      exact hone u (by omega)
    · rw [decDigits, dif_neg h] at hc
      rcases List.mem_append.1 hc with hc | hc
      · exact ih (u / 10) (by omega) c hc
      · rw [List.mem_singleton.1 hc]
        exact hone _ (by omega)
theorem atoi_dec {k : Nat} (hk : k < 9223372036854775808) : atoiOk (decS k) = some (k : Int) := by
  unfold atoiOk
  rw [decS_list]
  have hd := dec_digits k
  have hp : parseMag (decDigits k) = .ok k := by
    have e64 : (2 : Nat) ^ 64 - 1 = 18446744073709551615 := by decide
    have hne : decDigits k ≠ [] := by
      intro h0
      have := decDigits_length k
      have h1 := nDigits_pos k
      rw [h0] at this
      simp at this
      omega
    rw [← parseUintB_64]
    unfold parseUintB
    rw [if_neg hne, e64, parse_dec k (by omega)]
  cases hl : decDigits k with
  | nil => rw [hl] at hp; cases hp
  | cons c r =>
    rw [hl] at hd hp
    have hc := hd c (List.mem_cons_self ..)
    rw [atoiAll_plain c r (by omega) (by omega), hp]
    simp only [signless]
    rw [if_neg (by omega)]
theorem atoi_nat {s : ByteArray} {n0 : Int} {be : Bool} (hat : atoiOk s = if be = true then none else some n0) (h45 : ∀ c ∈ s.data.toList, c.toNat ≠ 45) (hs : s.size ≤ 18) :
    natF s = if (be || decide ((⟨(itoa n0).toArray⟩ : ByteArray) ≠ s)) = true then none else some n0.toNat := by
  have key : ∀ k, natF s = some k → atoiOk s = some (k : Int) ∧ (⟨(itoa (k : Int)).toArray⟩ : ByteArray) = s := by
    intro k hk
    have h1 := natF_lt hk
    rw [natF_eq] at hk
    obtain ⟨h2, h3⟩ := numOf_some hk
    have h4 : k < 10 ^ 18 := Nat.lt_of_lt_of_le h1 (Nat.pow_le_pow_right (by decide) hs)
    have h5 : (10 : Nat) ^ 18 = 1000000000000000000 := by decide
    refine ⟨by rw [h2]; exact atoi_dec (by omega), ?_⟩
    rw [itoa_nonneg, h2]
    rfl
  cases be with
  | true =>
    simp only [if_true] at hat
    simp only [Bool.true_or, if_true]
    cases hk : natF s with
    | none => rfl
    | some k => rw [(key k hk).1] at hat; cases hat
  | false =>
    have hat2 : atoiOk s = some n0 := hat
    simp only [Bool.false_or, decide_eq_true_eq]
    by_cases he : (⟨(itoa n0).toArray⟩ : ByteArray) = s
    · rw [if_neg (fun h => h he)]
      have hpos : 0 ≤ n0 := by
        rcases Int.lt_or_le n0 0 with hneg | hpos
        · exfalso
          have h1 : itoa n0 = s.data.toList := by rw [← he]
          unfold itoa at h1
          rw [if_pos hneg] at h1
          have h2 := h45 45 (by rw [← h1]; exact List.mem_cons_self ..)
          exact h2 rfl
        · exact hpos
      have hb : n0 ≤ 9223372036854775807 := by
        unfold atoiOk at hat2
        cases hq : atoiAll s.data.toList with
        | ok m =>
          rw [hq] at hat2
          simp only [Option.some.injEq] at hat2
          have := atoiAll_bounds hq
          omega
        | _ => rw [hq] at hat2; cases hat2
      have hs2 : s = decS n0.toNat := by
        rw [← he]
        unfold decS itoa
        rw [if_neg (by omega)]
      rw [hs2, natF_eq]
      exact numOf_dec (by omega)
    · rw [if_pos he]
      cases hk : natF s with
      | none => rfl
      | some k =>
        obtain ⟨h1, h2⟩ := key k hk
        rw [h1] at hat2
        cases hat2
        exact absurd h2 he
end Go.Rx
/- The program's frame: the document's head, and whether the whole line is there. -/
namespace Go.Rx
open Go Go.RowKit Go.Lib Go.Proofs.YtcggppjpnepoiaaDoor
set_option linter.unusedVariables false
set_option linter.unusedSimpArgs false
def lineV (size place : Int) : Value := .agg #[.string ⟨#[]⟩, .slice none 0 0, .int .i64 size, .int .i64 place]
def frameV (l : List Int) : HeadA → Value
  | .bad a c => .tuple #[lineV 0 a, .int .i64 0, .int .i64 0, .int .i64 c]
  | .ok f k => if 2048 < f + k + 7 then .tuple #[lineV 0 10, .int .i64 0, .int .i64 0, .int .i64 2] else if l.length < f + k + 7 then .tuple #[lineV 0 l.length, .int .i64 0, .int .i64 0, .int .i64 20]
    else .tuple #[lineV ((f + k + 7 : Nat) : Int) 0, .int .i64 (f : Int), .int .i64 ((f + k : Nat) : Int), .int .i64 0]
theorem frameV_ok (l : List Int) (f k : Nat) : frameV l (.ok f k) = if 2048 < f + k + 7 then .tuple #[lineV 0 10, .int .i64 0, .int .i64 0, .int .i64 2] else if l.length < f + k + 7 then .tuple #[lineV 0 l.length, .int .i64 0, .int .i64 0, .int .i64 20]
    else .tuple #[lineV ((f + k + 7 : Nat) : Int) 0, .int .i64 (f : Int), .int .i64 ((f + k : Nat) : Int), .int .i64 0] := rfl
theorem digits_45 {l : List Int} {n : Nat} (h : ∀ j < n, digit l[10 + j]! = true) : ∀ c ∈ (strOf ((l.drop 10).take n)).data.toList, c.toNat ≠ 45 := by
  intro c hc
  rw [strOf_toList] at hc
  obtain ⟨x, hx, rfl⟩ := List.mem_map.1 hc
  obtain ⟨j, hj, rfl⟩ := List.getElem_of_mem hx
  have hj1 : j < n := by rw [List.length_take] at hj; omega
  have hj2 : 10 + j < l.length := by rw [List.length_take, List.length_drop] at hj; omega
  have h2 := h j hj1
  rw [getElem!_pos l (10 + j) hj2] at h2
  have e : ((l.drop 10).take n)[j] = l[10 + j] := by simp
  rw [e]
  unfold digit at h2
  simp only [Bool.and_eq_true, decide_eq_true_eq] at h2
  rw [UInt8.toNat_ofNat']
  omega
theorem itoa_pos {s : ByteArray} {n0 : Int} (he : (⟨(itoa n0).toArray⟩ : ByteArray) = s) (h45 : ∀ c ∈ s.data.toList, c.toNat ≠ 45) : 0 ≤ n0 := by
  rcases Int.lt_or_le n0 0 with hneg | hpos
  · exfalso
    have h1 : itoa n0 = s.data.toList := by rw [← he]
    unfold itoa at h1
    rw [if_pos hneg] at h1
    have h2 := h45 45 (by rw [← h1]; exact List.mem_cons_self ..)
    exact h2 rfl
  · exact hpos
theorem frame_bad {l : List Int} {n : Nat} {n0 : Int} {be : Bool} {s : ByteArray} (hp : preF l 10 0 = 10) (hg : dgF l 5 0 = n) (hl : ¬ 10 + n = l.length) (hs : strOf ((l.drop 10).take n) = s) (hss : s.size = n)
    (hna : natF s = if (be || decide ((⟨(itoa n0).toArray⟩ : ByteArray) ≠ s)) = true then none else some n0.toNat)
    (h : (be || decide ((s.size : Int) = 5) || decide ((⟨(itoa n0).toArray⟩ : ByteArray) ≠ s) || decide (l[10 + n]! ≠ 1)) = true) : headF l = .bad 10 3 := by
  rw [headF, hp, hg, if_neg (by omega), if_neg hl, hs, hna]
  by_cases hb : (be || decide ((⟨(itoa n0).toArray⟩ : ByteArray) ≠ s)) = true
  · rw [if_pos hb]
  · rw [if_neg hb]
    simp only
    rw [if_pos]
    simp only [Bool.or_eq_true, decide_eq_true_eq] at h hb
    rcases h with ((h | h) | h) | h
    · exact absurd (.inl h) hb
    · exact .inl (by omega)
    · exact absurd (.inr h) hb
    · exact .inr h
theorem frame_ok {l : List Int} {n : Nat} {n0 : Int} {be : Bool} {s : ByteArray} (hp : preF l 10 0 = 10) (hg : dgF l 5 0 = n) (hl : ¬ 10 + n = l.length) (hs : strOf ((l.drop 10).take n) = s) (hss : s.size = n) (h45 : ∀ c ∈ s.data.toList, c.toNat ≠ 45)
    (hna : natF s = if (be || decide ((⟨(itoa n0).toArray⟩ : ByteArray) ≠ s)) = true then none else some n0.toNat)
    (h : (be || decide ((s.size : Int) = 5) || decide ((⟨(itoa n0).toArray⟩ : ByteArray) ≠ s) || decide (l[10 + n]! ≠ 1)) = false) : ∃ k : Nat, n0 = k ∧ headF l = .ok (11 + n) k ∧ k < 10000 := by
  simp only [Bool.or_eq_false_iff, decide_eq_false_iff_not] at h
  obtain ⟨⟨⟨rfl, h1⟩, h2⟩, h3⟩ := h
  have he := Classical.not_not.1 h2
  have hpos := itoa_pos he h45
  have hn5 : n ≤ 5 := by rw [← hg]; exact dgF_le l 5 0
  rw [if_neg (by simp [he])] at hna
  refine ⟨n0.toNat, (Int.toNat_of_nonneg hpos).symm, ?_, ?_⟩
  · rw [headF, hp, hg, if_neg (by omega), if_neg hl, hs, hna]
    simp only
    rw [if_neg]
    rintro (h | h)
    · omega
    · exact h3 h
  · have h5 := natF_lt hna
    have h6 : s.size ≤ 4 := by omega
    exact Nat.lt_of_lt_of_le h5 (Nat.pow_le_pow_right (by decide) h6)
set_option maxHeartbeats 4000000 in
set_option maxRecDepth 100000 in
theorem textFrame {w : World} {v : Value} {l : List Int} (hr : RSl byteEnc 1 w [] v l) (hB : isBytes l) (hL : Laid w) :
    Spec Go.Proofs.Tryd.prog 48 #[v] w [] (fun u _ => u = frameV l (headF l)) := by
  have hsm := hr.small
  refine Spec.enter (fn := Go.Proofs.Tryd.f48) (n := 115) [v] Go.Proofs.Tryd.func48 (by kernel_rfl) rfl Go.Proofs.Tryd.ntmps48 Go.Proofs.Tryd.results48 rfl (Own.nil _) ?_
  refine JC.rs ?_
  refine Seq.alloc (cs := [_, _, _, _]) (hz := z.text_line) (k := ?_); intro b2
  refine Seq.p rfl Ev.assign ?_
  refine Seq.p rfl Ev.assign ?_
  refine Seq.p rfl Ev.assign ?_
  refine Seq.nil ?_
  refine JC.seq ?_
  refine JC.rs ?_
  refine Seq.p rfl Ev.move ?_
  refine Seq.nil ?_
  refine JC.blk ?_
  refine JC.loop (α := Nat) (I := fun i e1 H1 => Has [3, 4, 5, 6, 11, 12, 13, 14, 15, 16, 17, 18, 19, 20, 21, 22, 23, 24, 25, 26, 27, 28, 29] [(11, .int .i64 (i : Int))] _ e1 ∧ H1 = _ ∧ i ≤ 10 ∧ i ≤ l.length ∧ preF l (10 - i) i = preF l 10 0) (μ := fun i => 10 - i) 0 ⟨Has.mk Off.refl (allLook_cons (by repeat (first | exact Look.here | apply Look.there (hne := rfl) | exact Look.const | apply Look.mix rfl | exact Look.arg0 | apply Look.args | exact Look.func)) allLook_nil), rfl, by omega, by omega, rfl⟩ ?_
  rintro i _ _ ⟨⟨u, rfl⟩, rfl, hi, hil, hq⟩; dsimp only [setL]
  refine JC.rs ?_
  refine Seq.p rfl Ev.lt ?_
  refine Seq.nil ?_
  refine JC.seq ?_
  first | refine JC.c (ht := fun c12 => ?_) (hf := fun c12 => ?_) | refine JC.cb (ht := fun c12 => ?_) (hf := fun c12 => ?_)
  · -- then_t12
    have hi2 : i < 10 := by omega
    rw [show 10 - i = (10 - (i + 1)) + 1 by omega, preF] at hq
    refine JC.skip ?_
    refine JC.seq ?_
    refine JC.blk ?_
    refine JC.rs ?_
    refine Seq.p rfl Ev.move ?_
    refine Seq.p rfl Ev.assign ?_
    refine Seq.nil ?_
    refine JC.seq ?_
    refine JC.rs ?_
    refine Seq.p rfl Ev.move ?_
    refine Seq.p rfl Ev.move ?_
    refine Seq.p rfl (Ev.lenSl sl.sl_uint8 (hr := hr.r)) ?_
    refine Seq.p rfl Ev.eq ?_
    refine Seq.nil ?_
    first | refine JC.c (ht := fun c17 => ?_) (hf := fun c17 => ?_) | refine JC.cb (ht := fun c17 => ?_) (hf := fun c17 => ?_)
    · -- then_t17
      refine JC.rs ?_
      refine Seq.p rfl Ev.move ?_
      refine Seq.p rfl (Ev.buildN [_, _, _, _] pl.text_line z.text_line) ?_
      refine Seq.storeN [_, _, _, _] sz.text_line (k := ?_)
      refine Seq.p rfl Ev.assign ?_
      refine Seq.p rfl Ev.assign ?_
      refine Seq.p rfl Ev.assign ?_
      refine Seq.nil ?_
      refine JC.ret ?_
      -- return 0
      show retQ _ _ _ _ _ _ _ _
      refine retI (RVs.bA ag.text_line (hs := (RVs.t (hs := (RVs.t (hs := (RVs.t (hs := RVs.nil)))))))) (Part.nil _) ?_
      rw [if_neg (by omega)] at hq
      have hh : headF l = .bad (i : Nat) 20 := by rw [headF, ← hq, if_pos hi2, if_pos (by omega)]
      rw [hh]
      rfl
    · -- else_t17
      have hi3 : i < l.length := by omega
      refine JC.skip ?_
      refine JC.qs mixed (by kernel_rfl) ?_
      refine Qui.p rfl Ev.move ?_
      refine Qui.p rfl Ev.move ?_
      refine Qui.p rfl (Ev.iaN sl.sl_uint8 (hr := hr.r)) ?_
      refine Qui.p rfl (Ev.ldE1 sc.uint8 (hr := hr.r)) ?_
      refine Qui.p rfl Ev.move ?_
      refine Qui.p rfl (Ev.indexStr st.string (hi := ⟨by omega, by show (i : Int) < 10; omega⟩)) ?_
      refine Qui.p rfl Ev.ne ?_
      refine Qui.nil ?_
      first | refine JC.c (ht := fun c26 => ?_) (hf := fun c26 => ?_) | refine JC.cb (ht := fun c26 => ?_) (hf := fun c26 => ?_)
      · -- then_t26
        refine JC.rs ?_
        refine Seq.p rfl Ev.move ?_
        refine Seq.p rfl (Ev.buildN [_, _, _, _] pl.text_line z.text_line) ?_
        refine Seq.storeN [_, _, _, _] sz.text_line (k := ?_)
        refine Seq.p rfl Ev.assign ?_
        refine Seq.p rfl Ev.assign ?_
        refine Seq.p rfl Ev.assign ?_
        refine Seq.nil ?_
        refine JC.ret ?_
        -- return 1
        show retQ _ _ _ _ _ _ _ _
        refine retI (RVs.bA ag.text_line (hs := (RVs.t (hs := (RVs.t (hs := (RVs.t (hs := RVs.nil)))))))) (Part.nil _) ?_
        rw [begin_get hi2] at c26
        rw [if_neg (fun h => c26 h.2)] at hq
        have hh : headF l = .bad (i : Nat) 3 := by rw [headF, ← hq, if_pos hi2, if_neg (by omega)]
        rw [hh]
        rfl
      · -- else_t26
        refine JC.skip ?_
        refine JC.reg ?_
        refine Seq.p rfl (by first | exact Ev.inc | exact Ev.add) ?_
        refine Seq.p rfl Ev.move ?_
        refine Seq.nil ?_
        rw [begin_get hi2] at c26
        rw [if_pos ⟨hi3, Classical.not_not.1 c26⟩] at hq
        exact ⟨i + 1, _, Part.refl _, ⟨Has.mk (by repeat (first | refine Off.upd ?_ rfl | exact Off.mix | refine Off.mix2 ?_ rfl | exact Off.refl)) (allLook_cons (by repeat (first | exact Look.here | apply Look.there (hne := rfl) | exact Look.const | apply Look.mix rfl | exact Look.arg0 | apply Look.args | exact Look.func)) allLook_nil), rfl, by omega, by omega, hq⟩, by omega⟩
  · -- else_t12
    obtain rfl : i = 10 := by omega
    have hp : preF l 10 0 = 10 := hq.symm
    refine JC.exit ?_ -- 0
    refine JC.rs ?_
    refine Seq.p rfl Ev.assign ?_
    refine Seq.nil ?_
    refine JC.seq ?_
    refine JC.blk ?_
    refine JC.loop (α := Nat) (I := fun n e1 H1 => Has [7, 30, 31, 32, 33, 34, 35, 36, 37, 38, 39, 40, 41, 42, 43, 44, 45, 46, 47, 48, 49, 50, 51, 52, 53] [(7, .int .i64 ((10 + n : Nat) : Int))] _ e1 ∧ H1 = _ ∧ n ≤ 5 ∧ 10 + n ≤ l.length ∧ dgF l (5 - n) n = dgF l 5 0 ∧ ∀ j < n, digit l[10 + j]! = true) (μ := fun n => 5 - n) 0 ⟨Has.mk Off.refl (allLook_cons (by repeat (first | exact Look.here | apply Look.there (hne := rfl) | exact Look.const | apply Look.mix rfl | exact Look.arg0 | apply Look.args | exact Look.func)) allLook_nil), rfl, by omega, by omega, rfl, by omega⟩ ?_
    rintro n _ _ ⟨⟨u, rfl⟩, rfl, hn, hnl, hd, hdg⟩; dsimp only [setL]
    refine JC.seq ?_
    refine JC.rs ?_
    refine Seq.p rfl Ev.move ?_
    refine Seq.p rfl Ev.move ?_
    refine Seq.p rfl (Ev.lenSl sl.sl_uint8 (hr := hr.r)) ?_
    refine Seq.p rfl Ev.lt ?_
    refine Seq.p rfl Ev.move ?_
    refine Seq.andG (D := [34, 35, 36, 37]) (d := 34) (t := 37) (k := 3) (hn := fun h34 => ?_) (hx := ?_)
    · repeat (first | refine Seq.gn rfl rfl rfl rfl ?_ | refine Seq.gu rfl rfl rfl ?_)
      refine Seq.p rfl Ev.pickF ?_
      exact Seq.nil ⟨rfl, (by repeat (first | with_reducible exact Off.refl | refine Off.upd ?_ rfl | exact Off.mix | refine Off.mix2 ?_ rfl)), Look.here⟩
    apply Exists.intro
    refine ⟨fun h34 => ?_, fun u37 => ?_⟩
    · try simp only [decide_eq_true_eq, decide_eq_false_iff_not, Bool.and_eq_true, Bool.or_eq_true, Bool.not_eq_true', Bool.not_eq_false', Bool.or_eq_false_iff, Bool.and_eq_false_imp] at h34
      refine Seq.gy rfl rfl rfl ?_
      refine Seq.p rfl Ev.move ?_
      refine Seq.gy rfl rfl rfl ?_
      refine Seq.p rfl Ev.lt ?_
      refine Seq.p rfl Ev.pickT ?_
      exact Seq.nil ⟨rfl, (by repeat (first | with_reducible exact Off.refl | refine Off.upd ?_ rfl | exact Off.mix | refine Off.mix2 ?_ rfl)), Look.here⟩
    refine Seq.p rfl Ev.move ?_
    refine Seq.andG (D := [38, 39, 40, 41, 42, 43, 44]) (d := 38) (t := 44) (k := 6) (hn := fun h38 => ?_) (hx := ?_)
    · repeat (first | refine Seq.gn rfl rfl rfl rfl ?_ | refine Seq.gu rfl rfl rfl ?_)
      refine Seq.p rfl Ev.pickF ?_
      exact Seq.nil ⟨rfl, (by repeat (first | with_reducible exact Off.refl | refine Off.upd ?_ rfl | exact Off.mix | refine Off.mix2 ?_ rfl)), Look.here⟩
    apply Exists.intro
    refine ⟨fun h38 => ?_, fun u44 => ?_⟩
    · try simp only [decide_eq_true_eq, decide_eq_false_iff_not, Bool.and_eq_true, Bool.or_eq_true, Bool.not_eq_true', Bool.not_eq_false', Bool.or_eq_false_iff, Bool.and_eq_false_imp] at h38
      refine Seq.gy rfl rfl rfl ?_
      refine Seq.p rfl Ev.move ?_
      refine Seq.gy rfl rfl rfl ?_
      refine Seq.p rfl Ev.move ?_
      refine Seq.gy rfl rfl rfl ?_
      refine Seq.p rfl (Ev.iaN sl.sl_uint8 (hr := hr.r)) ?_
      refine Seq.gy rfl rfl rfl ?_
      refine Seq.p rfl (Ev.ldE1 sc.uint8 (hr := hr.r)) ?_
      refine Seq.gy rfl rfl rfl ?_
      refine Seq.p rfl Ev.ge ?_
      refine Seq.p rfl Ev.pickT ?_
      exact Seq.nil ⟨rfl, (by repeat (first | with_reducible exact Off.refl | refine Off.upd ?_ rfl | exact Off.mix | refine Off.mix2 ?_ rfl)), Look.here⟩
    refine Seq.p rfl Ev.move ?_
    refine Seq.andG (D := [45, 46, 47, 48, 49, 50, 51]) (d := 45) (t := 51) (k := 6) (hn := fun h45 => ?_) (hx := ?_)
    · repeat (first | refine Seq.gn rfl rfl rfl rfl ?_ | refine Seq.gu rfl rfl rfl ?_)
      refine Seq.p rfl Ev.pickF ?_
      exact Seq.nil ⟨rfl, (by repeat (first | with_reducible exact Off.refl | refine Off.upd ?_ rfl | exact Off.mix | refine Off.mix2 ?_ rfl)), Look.here⟩
    apply Exists.intro
    refine ⟨fun h45 => ?_, fun u51 => ?_⟩
    · try simp only [decide_eq_true_eq, decide_eq_false_iff_not, Bool.and_eq_true, Bool.or_eq_true, Bool.not_eq_true', Bool.not_eq_false', Bool.or_eq_false_iff, Bool.and_eq_false_imp] at h45
      refine Seq.gy rfl rfl rfl ?_
      refine Seq.p rfl Ev.move ?_
      refine Seq.gy rfl rfl rfl ?_
      refine Seq.p rfl Ev.move ?_
      refine Seq.gy rfl rfl rfl ?_
      refine Seq.p rfl (Ev.iaN sl.sl_uint8 (hr := hr.r)) ?_
      refine Seq.gy rfl rfl rfl ?_
      refine Seq.p rfl (Ev.ldE1 sc.uint8 (hr := hr.r)) ?_
      refine Seq.gy rfl rfl rfl ?_
      refine Seq.p rfl Ev.le ?_
      refine Seq.p rfl Ev.pickT ?_
      exact Seq.nil ⟨rfl, (by repeat (first | with_reducible exact Off.refl | refine Off.upd ?_ rfl | exact Off.mix | refine Off.mix2 ?_ rfl)), Look.here⟩
    refine Seq.nil ?_
    first | refine JC.c (ht := fun c51 => ?_) (hf := fun c51 => ?_) | refine JC.cb (ht := fun c51 => ?_) (hf := fun c51 => ?_)
    · -- then_t51
      refine JC.skip ?_
      refine JC.blk ?_
      refine JC.reg ?_
      refine Seq.p rfl Ev.move ?_
      refine Seq.p rfl (by first | exact Ev.inc | exact Ev.add) ?_
      refine Seq.p rfl Ev.assign ?_
      refine Seq.nil ?_
      simp only [Bool.and_eq_true, decide_eq_true_eq] at c51
      have hdn : digit l[10 + n]! = true := by unfold digit; simp only [Bool.and_eq_true, decide_eq_true_eq]; omega
      rw [show 5 - n = (5 - (n + 1)) + 1 by omega, dgF, if_pos ⟨by omega, hdn⟩] at hd
      refine ⟨n + 1, _, Part.refl _, ⟨Has.mk (by repeat (first | refine Off.upd ?_ rfl | exact Off.mix | refine Off.mix2 ?_ rfl | exact Off.refl)) (allLook_cons (by repeat (first | exact Look.here | apply Look.there (hne := rfl) | exact Look.const | apply Look.mix rfl | exact Look.arg0 | apply Look.args | exact Look.func)) allLook_nil), rfl, by omega, by omega, hd, fun j hj => ?_⟩, by omega⟩
      by_cases h : j = n
      · rw [h]; exact hdn
      · exact hdg j (by omega)
    · -- else_t51
      have hg : dgF l 5 0 = n := by
        rw [← hd]
        rcases Nat.lt_or_ge n 5 with h5 | h5
        · rw [show 5 - n = (5 - (n + 1)) + 1 by omega, dgF, if_neg]
          rintro ⟨h1, h2⟩
          simp only [Bool.and_eq_false_iff, decide_eq_false_iff_not] at c51
          unfold digit at h2
          simp only [Bool.and_eq_true, decide_eq_true_eq] at h2
          omega
        · rw [show 5 - n = 0 by omega]; rfl
      have hsub : RSl byteEnc 1 w [] (subSl v 10 (10 + n) 1) ((l.drop 10).take n) := by
        have h2 := hr.sub (lo := 10) (hi := 10 + n) (by omega) (by omega)
        rwa [show 10 + n - 10 = n by omega] at h2
      have h45 := digits_45 hdg
      have hsl : ((l.drop 10).take n).length = n := by rw [List.length_take, List.length_drop]; omega
      have hss := strOf_size ((l.drop 10).take n)
      rw [hsl] at hss
      refine JC.exit ?_ -- 2
      refine JC.seq ?_
      refine JC.rs ?_
      refine Seq.p rfl Ev.move ?_
      refine Seq.p rfl Ev.move ?_
      refine Seq.p rfl (Ev.lenSl sl.sl_uint8 (hr := hr.r)) ?_
      refine Seq.p rfl Ev.eq ?_
      refine Seq.nil ?_
      first | refine JC.c (ht := fun c57 => ?_) (hf := fun c57 => ?_) | refine JC.cb (ht := fun c57 => ?_) (hf := fun c57 => ?_)
      · -- then_t57
        refine JC.rs ?_
        refine Seq.p rfl Ev.move ?_
        refine Seq.p rfl (Ev.buildN [_, _, _, _] pl.text_line z.text_line) ?_
        refine Seq.storeN [_, _, _, _] sz.text_line (k := ?_)
        refine Seq.p rfl Ev.assign ?_
        refine Seq.p rfl Ev.assign ?_
        refine Seq.p rfl Ev.assign ?_
        refine Seq.nil ?_
        refine JC.ret ?_
        -- return 2
        show retQ _ _ _ _ _ _ _ _
        refine retI (RVs.bA ag.text_line (hs := (RVs.t (hs := (RVs.t (hs := (RVs.t (hs := RVs.nil)))))))) (Part.nil _) ?_
        have hh : headF l = .bad l.length 20 := by rw [headF, hp, hg, if_neg (by omega), if_pos (by omega)]
        rw [hh, show ((10 + n : Nat) : Int) = (l.length : Int) by omega]
        rfl
      · -- else_t57
        refine JC.skip ?_
        refine JC.rs ?_
        refine Seq.p rfl Ev.move ?_
        refine Seq.p rfl Ev.move ?_
        refine Seq.p rfl (Ev.cut sl.sl_uint8 (hr := hr.r) (l := 10) (h := 10 + n) (hlo := ⟨_, (by repeat (first | exact Look.here | apply Look.there (hne := rfl) | exact Look.const | apply Look.mix rfl | exact Look.arg0 | apply Look.args | exact Look.func))⟩) (hhi := ⟨_, (by repeat (first | exact Look.here | apply Look.there (hne := rfl) | exact Look.const | apply Look.mix rfl | exact Look.arg0 | apply Look.args | exact Look.func))⟩)) ?_
        refine Seq.p rfl (Ev.strOf (l := (l.drop 10).take n) sl.sl_uint8 it.uint8 st.string (hr := hsub.r)) ?_
        refine Seq.p rfl Ev.assign ?_
        refine Seq.nil ?_
        refine JC.rs ?_
        refine Seq.p rfl Ev.move ?_
        refine Seq.call rfl (fun w hw => textAtoi (by omega) (hL.upd hw)) (F := _) (by exact List.Perm.refl _) ?_
        rintro _ _ ⟨n0, er, be, rfl, rfl, her, hat, hn0, hn1⟩
        simp only [List.nil_append]
        refine Seq.p rfl Ev.move ?_
        refine Seq.p rfl Ev.extract ?_
        refine Seq.p rfl Ev.extract ?_
        refine Seq.p rfl Ev.assign ?_
        refine Seq.p rfl Ev.assign ?_
        refine Seq.nil ?_
        refine JC.seq ?_
        refine JC.rs ?_
        refine Seq.p rfl Ev.move ?_
        refine Seq.p rfl (Ev.neErr her (by kernel_rfl)) ?_
        refine Seq.p rfl Ev.move ?_
        refine Seq.orG (D := [71, 72, 73, 74, 75]) (d := 71) (t := 75) (k := 4) (hn := fun h71 => ?_) (hx := ?_)
        · repeat (first | refine Seq.gn rfl rfl rfl rfl ?_ | refine Seq.gu rfl rfl rfl ?_)
          refine Seq.p rfl Ev.pickT ?_
          exact Seq.nil ⟨rfl, (by repeat (first | with_reducible exact Off.refl | refine Off.upd ?_ rfl | exact Off.mix | refine Off.mix2 ?_ rfl)), Look.here⟩
        apply Exists.intro
        refine ⟨fun h71 => ?_, fun u75 => ?_⟩
        · try simp only [decide_eq_true_eq, decide_eq_false_iff_not, Bool.and_eq_true, Bool.or_eq_true, Bool.not_eq_true', Bool.not_eq_false', Bool.or_eq_false_iff, Bool.and_eq_false_imp] at h71
          refine Seq.gy rfl rfl rfl ?_
          refine Seq.p rfl Ev.move ?_
          refine Seq.gy rfl rfl rfl ?_
          refine Seq.p rfl (Ev.lenStr st.string) ?_
          refine Seq.gy rfl rfl rfl ?_
          refine Seq.p rfl Ev.eq ?_
          refine Seq.p rfl Ev.pickF ?_
          exact Seq.nil ⟨rfl, (by repeat (first | with_reducible exact Off.refl | refine Off.upd ?_ rfl | exact Off.mix | refine Off.mix2 ?_ rfl)), Look.here⟩
        refine Seq.p rfl Ev.move ?_
        refine Seq.orG (D := [76, 77, 78, 79, 80, 81]) (d := 76) (t := 81) (k := 5) (hn := fun h76 => ?_) (hx := ?_)
        · repeat (first | refine Seq.gn rfl rfl rfl rfl ?_ | refine Seq.gu rfl rfl rfl ?_)
          refine Seq.p rfl Ev.pickT ?_
          exact Seq.nil ⟨rfl, (by repeat (first | with_reducible exact Off.refl | refine Off.upd ?_ rfl | exact Off.mix | refine Off.mix2 ?_ rfl)), Look.here⟩
        apply Exists.intro
        refine ⟨fun h76 => ?_, fun u81 => ?_⟩
        · try simp only [decide_eq_true_eq, decide_eq_false_iff_not, Bool.and_eq_true, Bool.or_eq_true, Bool.not_eq_true', Bool.not_eq_false', Bool.or_eq_false_iff, Bool.and_eq_false_imp] at h76
          refine Seq.gy rfl rfl rfl ?_
          refine Seq.p rfl Ev.move ?_
          refine Seq.gy rfl rfl rfl ?_
          refine Seq.callP rfl (fun w hw => textItoa hn0 hn1 (hL.upd hw)) ?_
          refine Seq.gy rfl rfl rfl ?_
          refine Seq.p rfl Ev.move ?_
          refine Seq.gy rfl rfl rfl ?_
          refine Seq.p rfl Ev.neStr ?_
          refine Seq.p rfl Ev.pickF ?_
          exact Seq.nil ⟨rfl, (by repeat (first | with_reducible exact Off.refl | refine Off.upd ?_ rfl | exact Off.mix | refine Off.mix2 ?_ rfl)), Look.here⟩
        refine Seq.p rfl Ev.move ?_
        refine Seq.orG (D := [82, 83, 84, 85, 86, 87, 88]) (d := 82) (t := 88) (k := 6) (hn := fun h82 => ?_) (hx := ?_)
        · repeat (first | refine Seq.gn rfl rfl rfl rfl ?_ | refine Seq.gu rfl rfl rfl ?_)
          refine Seq.p rfl Ev.pickT ?_
          exact Seq.nil ⟨rfl, (by repeat (first | with_reducible exact Off.refl | refine Off.upd ?_ rfl | exact Off.mix | refine Off.mix2 ?_ rfl)), Look.here⟩
        apply Exists.intro
        refine ⟨fun h82 => ?_, fun u88 => ?_⟩
        · try simp only [decide_eq_true_eq, decide_eq_false_iff_not, Bool.and_eq_true, Bool.or_eq_true, Bool.not_eq_true', Bool.not_eq_false', Bool.or_eq_false_iff, Bool.and_eq_false_imp] at h82
          refine Seq.gy rfl rfl rfl ?_
          refine Seq.p rfl Ev.move ?_
          refine Seq.gy rfl rfl rfl ?_
          refine Seq.p rfl Ev.move ?_
          refine Seq.gy rfl rfl rfl ?_
          refine Seq.p rfl (Ev.iaN sl.sl_uint8 (hr := hr.r)) ?_
          refine Seq.gy rfl rfl rfl ?_
          refine Seq.p rfl (Ev.ldE1 sc.uint8 (hr := hr.r)) ?_
          refine Seq.gy rfl rfl rfl ?_
          refine Seq.p rfl Ev.ne ?_
          refine Seq.p rfl Ev.pickF ?_
          exact Seq.nil ⟨rfl, (by repeat (first | with_reducible exact Off.refl | refine Off.upd ?_ rfl | exact Off.mix | refine Off.mix2 ?_ rfl)), Look.here⟩
        refine Seq.nil ?_
        first | refine JC.c (ht := fun c88 => ?_) (hf := fun c88 => ?_) | refine JC.cb (ht := fun c88 => ?_) (hf := fun c88 => ?_)
        · -- then_t88
          have hna := atoi_nat hat h45 (by omega)
          refine JC.rs ?_
          refine Seq.p rfl (Ev.buildN [_, _, _, _] pl.text_line z.text_line) ?_
          refine Seq.storeN [_, _, _, _] sz.text_line (k := ?_)
          refine Seq.p rfl Ev.assign ?_
          refine Seq.p rfl Ev.assign ?_
          refine Seq.p rfl Ev.assign ?_
          refine Seq.nil ?_
          refine JC.ret ?_
          -- return 3
          show retQ _ _ _ _ _ _ _ _
          refine retI (RVs.bA ag.text_line (hs := (RVs.t (hs := (RVs.t (hs := (RVs.t (hs := RVs.nil)))))))) (Part.nil _) ?_
          have hh := frame_bad hp hg (by omega) rfl hss hna c88
          rw [hh]
          rfl
        · -- else_t88
          have hna := atoi_nat hat h45 (by omega)
          obtain ⟨k, rfl, hh, hk⟩ := frame_ok hp hg (by omega) rfl hss h45 hna c88
          refine JC.skip ?_
          refine JC.rs ?_
          refine Seq.p rfl Ev.move ?_
          refine Seq.p rfl (Ev.addN (m := 10 + n) (c := 1)) ?_
          refine Seq.p rfl Ev.assign ?_
          refine Seq.nil ?_
          refine JC.rs ?_
          refine Seq.p rfl Ev.move ?_
          refine Seq.p rfl Ev.move ?_
          refine Seq.p rfl (Ev.addN (m := 10 + n + 1) (c := k)) ?_
          refine Seq.p rfl Ev.assign ?_
          refine Seq.nil ?_
          refine JC.rs ?_
          refine Seq.p rfl Ev.move ?_
          refine Seq.p rfl (Ev.addN (m := 10 + n + 1 + k) (c := 7)) ?_
          refine Seq.p rfl (Ev.faB fd.text_line_2) ?_
          refine Seq.storeN [_, _, _, _] sz.int (k := ?_)
          refine Seq.nil ?_
          refine JC.seq ?_
          refine JC.blk ?_
          refine JC.rs ?_
          refine Seq.p rfl (Ev.faB fd.text_line_2) ?_
          refine Seq.p rfl (Ev.ldB sc.int) ?_
          refine Seq.p rfl Ev.gt ?_
          refine Seq.p rfl Ev.assign ?_
          refine Seq.nil ?_
          first | refine JC.c (ht := fun c98 => ?_) (hf := fun c98 => ?_) | refine JC.cb (ht := fun c98 => ?_) (hf := fun c98 => ?_)
          · -- then_t98
            refine JC.rs ?_
            refine Seq.p rfl (Ev.buildN [_, _, _, _] pl.text_line z.text_line) ?_
            refine Seq.storeN [_, _, _, _] sz.text_line (k := ?_)
            refine Seq.p rfl Ev.assign ?_
            refine Seq.p rfl Ev.assign ?_
            refine Seq.p rfl Ev.assign ?_
            refine Seq.nil ?_
            refine JC.ret ?_
            -- return 4
            show retQ _ _ _ _ _ _ _ _
            refine retI (RVs.bA ag.text_line (hs := (RVs.t (hs := (RVs.t (hs := (RVs.t (hs := RVs.nil)))))))) (Part.nil _) ?_
            rw [hh, frameV_ok]
            rw [if_pos (by omega)]
            rfl
          · -- else_t98
            refine JC.rs ?_
            refine Seq.p rfl Ev.move ?_
            refine Seq.p rfl (Ev.lenSl sl.sl_uint8 (hr := hr.r)) ?_
            refine Seq.p rfl (Ev.faB fd.text_line_2) ?_
            refine Seq.p rfl (Ev.ldB sc.int) ?_
            refine Seq.p rfl Ev.lt ?_
            refine Seq.p rfl Ev.assign ?_
            refine Seq.nil ?_
            first | refine JC.c (ht := fun c103 => ?_) (hf := fun c103 => ?_) | refine JC.cb (ht := fun c103 => ?_) (hf := fun c103 => ?_)
            · -- then_t103
              refine JC.rs ?_
              refine Seq.p rfl Ev.move ?_
              refine Seq.p rfl (Ev.lenSl sl.sl_uint8 (hr := hr.r)) ?_
              refine Seq.p rfl (Ev.buildN [_, _, _, _] pl.text_line z.text_line) ?_
              refine Seq.storeN [_, _, _, _] sz.text_line (k := ?_)
              refine Seq.p rfl Ev.assign ?_
              refine Seq.p rfl Ev.assign ?_
              refine Seq.p rfl Ev.assign ?_
              refine Seq.nil ?_
              refine JC.ret ?_
              -- return 5
              show retQ _ _ _ _ _ _ _ _
              refine retI (RVs.bA ag.text_line (hs := (RVs.t (hs := (RVs.t (hs := (RVs.t (hs := RVs.nil)))))))) (Part.nil _) ?_
              rw [hh, frameV_ok]
              rw [if_neg (by omega), if_pos (by omega)]
              rfl
            · -- else_t103
              refine JC.skip ?_
              refine JC.rs ?_
              refine Seq.p rfl (Ev.ldBA ag.text_line) ?_
              refine Seq.p rfl Ev.move ?_
              refine Seq.p rfl Ev.move ?_
              refine Seq.storeN [_, _, _, _] sz.text_line (k := ?_)
              refine Seq.p rfl Ev.assign ?_
              refine Seq.p rfl Ev.assign ?_
              refine Seq.p rfl Ev.assign ?_
              refine Seq.nil ?_
              refine JC.ret ?_
              -- return 6
              show retQ _ _ _ _ _ _ _ _
              refine retI (RVs.bA ag.text_line (hs := (RVs.t (hs := (RVs.t (hs := (RVs.t (hs := RVs.nil)))))))) (Part.nil _) ?_
              rw [hh, frameV_ok]
              rw [if_neg (by omega), if_neg (by omega), show 11 + n + k + 7 = 10 + n + 1 + k + 7 by omega, show 11 + n + k = 10 + n + 1 + k by omega, show 11 + n = 10 + n + 1 by omega]
              rfl
end Go.Rx
/- What trails a line, by the program. -/
namespace Go.Rx
open Go Go.RowKit Go.Lib Go.Proofs.YtcggppjpnepoiaaDoor
set_option linter.unusedVariables false
set_option linter.unusedSimpArgs false
/-- Seven bytes that are a last field of any sum. -/
def trailB (t : List Int) : Bool := (((t.drop 3).take 3).all digit && decide (t.take 3 = [49, 48, 61])) && decide (t[6]! = 1)
theorem all_get {l : List Int} {p : Int → Bool} : l.all p = true ↔ ∀ i < l.length, p l[i]! = true := by
  rw [List.all_eq_true]
  constructor
  · intro h i hi
    rw [getElem!_pos l i hi]
    exact h _ (List.getElem_mem _)
  · intro h x hx
    obtain ⟨i, hi, rfl⟩ := List.getElem_of_mem hx
    have := h i hi
    rwa [getElem!_pos l i hi] at this
theorem all_not {l : List Int} {p : Int → Bool} {i : Nat} (hi : i < l.length) (h : p l[i]! = false) : l.all p = false := by
  cases ha : l.all p with
  | false => rfl
  | true => rw [all_get.1 ha i hi] at h; cases h
set_option maxHeartbeats 2000000 in
set_option maxRecDepth 100000 in
theorem textTrailed {w : World} {v : Value} {t : List Int} (hr : RSl byteEnc 1 w [] v t) (hB : isBytes t) (h7 : t.length = 7) :
    Spec Go.Proofs.Tryd.prog 49 #[v] w [] (fun u _ => u = .bool (trailB t)) := by
  have hsub : RSl byteEnc 1 w [] (subSl v 3 6 1) ((t.drop 3).take 3) := hr.sub (lo := 3) (hi := 6) (by omega) (by omega)
  have hhead : RSl byteEnc 1 w [] (subSl v 0 3 1) (t.take 3) := by
    have h2 := hr.sub (lo := 0) (hi := 3) (by omega) (by omega)
    rwa [List.drop_zero] at h2
  have hl3 : ((t.drop 3).take 3).length = 3 := by rw [List.length_take, List.length_drop]; omega
  generalize hm : (t.drop 3).take 3 = m at hsub hl3
  refine Spec.enter (fn := Go.Proofs.Tryd.f49) (n := 29) [v] Go.Proofs.Tryd.func49 (by kernel_rfl) rfl Go.Proofs.Tryd.ntmps49 Go.Proofs.Tryd.results49 rfl (Own.nil _) ?_
  refine JC.rs ?_
  refine Seq.p rfl Ev.assign ?_
  refine Seq.nil ?_
  refine JC.seq ?_
  refine JC.rs ?_
  refine Seq.p rfl Ev.move ?_
  refine Seq.p rfl (Ev.cut sl.sl_uint8 (hr := hr.r) (l := 3) (h := 6) (hlo := ⟨_, (by repeat (first | exact Look.here | apply Look.there (hne := rfl) | exact Look.const | apply Look.mix rfl | exact Look.arg0 | apply Look.args | exact Look.func))⟩) (hhi := ⟨_, (by repeat (first | exact Look.here | apply Look.there (hne := rfl) | exact Look.const | apply Look.mix rfl | exact Look.arg0 | apply Look.args | exact Look.func))⟩)) ?_
  refine Seq.p rfl (Ev.lenSl sl.sl_uint8 (hr := hsub.r)) ?_
  refine Seq.p rfl Ev.move ?_
  refine Seq.nil ?_
  refine JC.blk ?_
  refine JC.loop (α := Nat) (I := fun i e1 H1 => Has [2, 4, 8, 9, 10, 11, 12, 13, 14, 15, 16, 17, 18] [(8, .int .i64 (i : Int))] _ e1 ∧ H1 = _ ∧ i ≤ m.length ∧ ∀ j < i, digit m[j]! = true) (μ := fun i => m.length - i) 0 ⟨Has.mk Off.refl (allLook_cons (by repeat (first | exact Look.here | apply Look.there (hne := rfl) | exact Look.const | apply Look.mix rfl | exact Look.arg0 | apply Look.args | exact Look.func)) allLook_nil), rfl, by omega, by omega⟩ ?_
  rintro i _ _ ⟨⟨u, rfl⟩, rfl, hi, hno⟩; dsimp only [setL]
  refine JC.rs ?_
  refine Seq.p rfl Ev.lt ?_
  refine Seq.nil ?_
  refine JC.seq ?_
  first | refine JC.c (ht := fun c9 => ?_) (hf := fun c9 => ?_) | refine JC.cb (ht := fun c9 => ?_) (hf := fun c9 => ?_)
  · -- then_t9
    have hi2 : i < m.length := by omega
    refine JC.skip ?_
    refine JC.seq ?_
    refine JC.blk ?_
    refine JC.rs ?_
    refine Seq.p rfl (Ev.iaN sl.sl_uint8 (hr := hsub.r)) ?_
    refine Seq.p rfl (Ev.ldE1 sc.uint8 (hr := hsub.r)) ?_
    refine Seq.p rfl Ev.assign ?_
    refine Seq.nil ?_
    refine JC.rs ?_
    refine Seq.p rfl Ev.move ?_
    refine Seq.p rfl Ev.lt ?_
    refine Seq.p rfl Ev.move ?_
    refine Seq.orG (D := [14, 15, 16, 17]) (d := 14) (t := 17) (k := 3) (hn := fun h14 => ?_) (hx := ?_)
    · repeat (first | refine Seq.gn rfl rfl rfl rfl ?_ | refine Seq.gu rfl rfl rfl ?_)
      refine Seq.p rfl Ev.pickT ?_
      exact Seq.nil ⟨rfl, (by repeat (first | with_reducible exact Off.refl | refine Off.upd ?_ rfl | exact Off.mix | refine Off.mix2 ?_ rfl)), Look.here⟩
    apply Exists.intro
    refine ⟨fun h14 => ?_, fun u17 => ?_⟩
    · try simp only [decide_eq_true_eq, decide_eq_false_iff_not, Bool.and_eq_true, Bool.or_eq_true, Bool.not_eq_true', Bool.not_eq_false', Bool.or_eq_false_iff, Bool.and_eq_false_imp] at h14
      refine Seq.gy rfl rfl rfl ?_
      refine Seq.p rfl Ev.move ?_
      refine Seq.gy rfl rfl rfl ?_
      refine Seq.p rfl Ev.gt ?_
      refine Seq.p rfl Ev.pickF ?_
      exact Seq.nil ⟨rfl, (by repeat (first | with_reducible exact Off.refl | refine Off.upd ?_ rfl | exact Off.mix | refine Off.mix2 ?_ rfl)), Look.here⟩
    refine Seq.nil ?_
    first | refine JC.c (ht := fun c17 => ?_) (hf := fun c17 => ?_) | refine JC.cb (ht := fun c17 => ?_) (hf := fun c17 => ?_)
    · -- then_t17
      refine JC.rs ?_
      refine Seq.p rfl Ev.assign ?_
      refine Seq.nil ?_
      refine JC.ret ?_
      -- return 0
      show retQ _ _ _ _ _ _ _ _
      refine ret1 (hp := Part.nil _) (hpost := ?_)
      have hd : digit m[i]! = false := by unfold digit; simp only [Bool.or_eq_true, decide_eq_true_eq] at c17; simp only [Bool.and_eq_false_iff, decide_eq_false_iff_not]; omega
      unfold trailB
      rw [hm, all_not hi2 hd]
      rfl
    · -- else_t17
      refine JC.skip ?_
      refine JC.reg ?_
      refine Seq.p rfl (by first | exact Ev.inc | exact Ev.add) ?_
      refine Seq.p rfl Ev.move ?_
      refine Seq.nil ?_
      have hd : digit m[i]! = true := by unfold digit; simp only [Bool.or_eq_false_iff, decide_eq_false_iff_not] at c17; simp only [Bool.and_eq_true, decide_eq_true_eq]; omega
      refine ⟨i + 1, _, Part.refl _, ⟨Has.mk (by repeat (first | refine Off.upd ?_ rfl | exact Off.mix | refine Off.mix2 ?_ rfl | exact Off.refl)) (allLook_cons (by repeat (first | exact Look.here | apply Look.there (hne := rfl) | exact Look.const | apply Look.mix rfl | exact Look.arg0 | apply Look.args | exact Look.func)) allLook_nil), rfl, by omega, fun j hj => ?_⟩, by omega⟩
      by_cases h : j = i
      · rw [h]; exact hd
      · exact hno j (by omega)
  · -- else_t9
    have ha : m.all digit = true := all_get.2 fun j hj => hno j (by omega)
    refine JC.exit ?_ -- 0
    refine JC.rs ?_
    refine Seq.p rfl Ev.move ?_
    refine Seq.p rfl (Ev.cut sl.sl_uint8 (hr := hr.r) (l := 0) (h := 3) (hlo := rfl) (hhi := ⟨_, (by repeat (first | exact Look.here | apply Look.there (hne := rfl) | exact Look.const | apply Look.mix rfl | exact Look.arg0 | apply Look.args | exact Look.func))⟩)) ?_
    refine Seq.p rfl (Ev.strOf (l := t.take 3) sl.sl_uint8 it.uint8 st.string (hr := hhead.r)) ?_
    refine Seq.p rfl Ev.eqStr ?_
    refine Seq.p rfl Ev.move ?_
    refine Seq.andG (D := [23, 24, 25, 26, 27, 28]) (d := 23) (t := 28) (k := 5) (hn := fun h23 => ?_) (hx := ?_)
    · repeat (first | refine Seq.gn rfl rfl rfl rfl ?_ | refine Seq.gu rfl rfl rfl ?_)
      refine Seq.p rfl Ev.pickF ?_
      exact Seq.nil ⟨rfl, (by repeat (first | with_reducible exact Off.refl | refine Off.upd ?_ rfl | exact Off.mix | refine Off.mix2 ?_ rfl)), Look.here⟩
    apply Exists.intro
    refine ⟨fun h23 => ?_, fun u28 => ?_⟩
    · try simp only [decide_eq_true_eq, decide_eq_false_iff_not, Bool.and_eq_true, Bool.or_eq_true, Bool.not_eq_true', Bool.not_eq_false', Bool.or_eq_false_iff, Bool.and_eq_false_imp] at h23
      refine Seq.gy rfl rfl rfl ?_
      refine Seq.p rfl Ev.move ?_
      refine Seq.gy rfl rfl rfl ?_
      refine Seq.p rfl (Ev.iaN sl.sl_uint8 (i := 6) (hr := hr.r) (hi := by rw [h7]; decide)) ?_
      refine Seq.gy rfl rfl rfl ?_
      refine Seq.p rfl (Ev.ldE1 sc.uint8 (i := 6) (hr := hr.r) (hi := by rw [h7]; decide)) ?_
      refine Seq.gy rfl rfl rfl ?_
      refine Seq.p rfl Ev.eq ?_
      refine Seq.p rfl Ev.pickT ?_
      exact Seq.nil ⟨rfl, (by repeat (first | with_reducible exact Off.refl | refine Off.upd ?_ rfl | exact Off.mix | refine Off.mix2 ?_ rfl)), Look.here⟩
    refine Seq.p rfl Ev.assign ?_
    refine Seq.nil ?_
    refine JC.ret ?_
    -- return 1
    show retQ _ _ _ _ _ _ _ _
    refine ret1 (hp := Part.nil _) (hpost := ?_)
    unfold trailB
    rw [hm, ha, Bool.true_and]
    congr 1
    congr 1
    rw [decide_eq_decide]
    rw [show (⟨#[49, 48, 61]⟩ : ByteArray) = strOf [49, 48, 61] from rfl]
    exact strOf_inj (fun n hn => hB n (List.mem_of_mem_take hn)) (by decide)
end Go.Rx
/- A text cut at its first '='; the first place of a byte. -/
namespace Go.Rx
open Go Go.RowKit Go.Lib Go.Proofs.YtcggppjpnepoiaaDoor
set_option linter.unusedVariables false
set_option linter.unusedSimpArgs false
/-- The first place of a byte; the length where there is none. -/
def firstF (c : Int) : List Int → Nat
  | [] => 0
  | x :: r => if x = c then 0 else firstF c r + 1
theorem firstF_le (c : Int) : ∀ l : List Int, firstF c l ≤ l.length
  | [] => Nat.le_refl _
  | x :: r => by
    unfold firstF
    split
    · simp
    · have := firstF_le c r
      simp
      omega
theorem indexByte_first {c : UInt8} : ∀ {l : List Int}, isBytes l → indexByte (l.map fun n => UInt8.ofNat n.toNat) c = if firstF c.toNat l < l.length then (firstF c.toNat l : Int) else -1
  | [], _ => rfl
  | x :: r, h => by
    have hx := h x (List.mem_cons_self ..)
    have ih := indexByte_first (c := c) (l := r) (fun y hy => h y (List.mem_cons_of_mem _ hy))
    have hle := firstF_le c.toNat r
    have hc : (UInt8.ofNat x.toNat == c) = decide (x = (c.toNat : Int)) := by
      rw [Bool.eq_iff_iff, beq_iff_eq, decide_eq_true_eq]
      constructor
      · intro he
        have := congrArg UInt8.toNat he
        rw [UInt8.toNat_ofNat'] at this
        omega
      · intro he
        rw [he, Int.toNat_natCast, UInt8.ofNat_toNat]
    by_cases he : x = (c.toNat : Int)
    · have e1 : firstF c.toNat (x :: r) = 0 := if_pos he
      rw [e1, if_pos (by simp)]
      simp only [List.map_cons, indexByte, hc]
      rw [decide_eq_true he, if_pos rfl]
      rfl
    · have e1 : firstF c.toNat (x :: r) = firstF c.toNat r + 1 := if_neg he
      rw [e1]
      simp only [List.map_cons, indexByte, hc, List.length_cons]
      rw [decide_eq_false he, if_neg (by simp), ih]
      by_cases hf : firstF c.toNat r < r.length
      · have hne : ((firstF c.toNat r : Int) == -1) = false := by
          rw [beq_eq_false_iff_ne]
          omega
        have h2 : firstF c.toNat r + 1 < r.length + 1 := by omega
        simp only [if_pos hf, hne, if_pos h2, Bool.false_eq_true, if_false]
        omega
      · have h2 : ¬ firstF c.toNat r + 1 < r.length + 1 := by omega
        simp only [if_neg hf, if_neg h2]
        rfl
def cutV (F : List Int) : Value := if firstF 61 F < F.length then .tuple #[.string (strOf (F.take (firstF 61 F))), .string (strOf (F.drop (firstF 61 F + 1))), .bool true] else .tuple #[.string (strOf F), .string ⟨#[]⟩, .bool false]
theorem indexSpec {w : World} {F : List Int} (hB : isBytes F) : Spec Go.Proofs.Tryd.prog 106 #[.string (strOf F), .string ⟨#[61]⟩] w [] (fun u _ => u = .int .i64 (if firstF 61 F < F.length then (firstF 61 F : Int) else -1)) := by
  refine spec_of_below ⟨Go.Proofs.Tryd.f106, Go.Proofs.Tryd.func106, by kernel_rfl, rfl⟩ ((Go.Proofs.Tryd.stringslite_Index_one (strOf F) 61 w).mono ?_)
  rintro e w' ⟨rfl, rfl⟩
  refine ⟨?_, Below.refl _ _⟩
  rw [strOf_toList, indexByte_first hB]
  rfl
set_option maxHeartbeats 1000000 in
set_option maxRecDepth 100000 in
theorem cutHit {w : World} {F : List Int} (hB : isBytes F) (hl : F.length ≤ 281474976710656) (h : firstF 61 F < F.length) : Spec Go.Proofs.Tryd.prog 99 #[.string (strOf F), .string ⟨#[61]⟩] w [] (fun u _ => u = cutV F) := by
  have hI := fun w => indexSpec (w := w) hB
  rw [if_pos h] at hI
  have hss := strOf_size F
  generalize hk : firstF 61 F = k at hI h
  refine Spec.enter (fn := Go.Proofs.Tryd.f99) (n := 23) [.string (strOf F), .string ⟨#[61]⟩] Go.Proofs.Tryd.func99 (by kernel_rfl) rfl Go.Proofs.Tryd.ntmps99 Go.Proofs.Tryd.results99 rfl (Own.nil _) ?_
  refine JC.rs ?_
  refine Seq.p rfl Ev.assign ?_
  refine Seq.p rfl Ev.assign ?_
  refine Seq.p rfl Ev.assign ?_
  refine Seq.nil ?_
  refine JC.seq ?_
  refine JC.rs ?_
  refine Seq.p rfl Ev.move ?_
  refine Seq.p rfl Ev.move ?_
  refine Seq.callP rfl (fun w hw => hI w) ?_
  refine Seq.p rfl Ev.assign ?_
  refine Seq.nil ?_
  refine JC.rs ?_
  refine Seq.p rfl Ev.move ?_
  refine Seq.p rfl Ev.ge ?_
  refine Seq.nil ?_
  first | refine JC.c (ht := fun c12 => ?_) (hf := fun c12 => ?_) | refine JC.cb (ht := fun c12 => ?_) (hf := fun c12 => ?_)
  · -- then_t12
    refine JC.qs mixed (by kernel_rfl) ?_
    refine Qui.p rfl Ev.move ?_
    refine Qui.p rfl Ev.move ?_
    refine Qui.p rfl (Ev.cutStr (s := strOf F) (l := 0) (h := k) st.string (hlo := rfl) (hhi := ⟨_, (by repeat (first | exact Look.here | apply Look.there (hne := rfl) | exact Look.const | apply Look.mix rfl | exact Look.arg0 | apply Look.args | exact Look.func))⟩)) ?_
    refine Qui.p rfl Ev.move ?_
    refine Qui.p rfl Ev.move ?_
    refine Qui.p rfl Ev.move ?_
    refine Qui.p rfl (Ev.lenStr st.string) ?_
    refine Qui.p rfl (Ev.addN (m := k) (c := 1)) ?_
    refine Qui.p rfl (Ev.cutStr (s := strOf F) (l := k + 1) (h := (strOf F).size) st.string (hlo := ⟨_, (by repeat (first | exact Look.here | apply Look.there (hne := rfl) | exact Look.const | apply Look.mix rfl | exact Look.arg0 | apply Look.args | exact Look.func))⟩) (hhi := rfl)) ?_
    refine Qui.p rfl Ev.assign ?_
    refine Qui.p rfl Ev.assign ?_
    refine Qui.p rfl Ev.assign ?_
    refine Qui.nil ?_
    refine JC.ret ?_
    -- return 0
    show retQ _ _ _ _ _ _ _ _
    refine ret3 (hp := Part.nil _) (hpost := ?_)
    unfold cutV
    rw [hk, if_pos h, strOf_cut, strOf_cut, hss, List.take_length, List.drop_zero]
    try rfl
  · -- else_t12
    exact absurd (by omega) c12
set_option maxHeartbeats 1000000 in
set_option maxRecDepth 100000 in
theorem cutMiss {w : World} {F : List Int} (hB : isBytes F) (h : ¬ firstF 61 F < F.length) : Spec Go.Proofs.Tryd.prog 99 #[.string (strOf F), .string ⟨#[61]⟩] w [] (fun u _ => u = cutV F) := by
  have hI := fun w => indexSpec (w := w) hB
  rw [if_neg h] at hI
  refine Spec.enter (fn := Go.Proofs.Tryd.f99) (n := 23) [.string (strOf F), .string ⟨#[61]⟩] Go.Proofs.Tryd.func99 (by kernel_rfl) rfl Go.Proofs.Tryd.ntmps99 Go.Proofs.Tryd.results99 rfl (Own.nil _) ?_
  refine JC.rs ?_
  refine Seq.p rfl Ev.assign ?_
  refine Seq.p rfl Ev.assign ?_
  refine Seq.p rfl Ev.assign ?_
  refine Seq.nil ?_
  refine JC.seq ?_
  refine JC.rs ?_
  refine Seq.p rfl Ev.move ?_
  refine Seq.p rfl Ev.move ?_
  refine Seq.callP rfl (fun w hw => hI w) ?_
  refine Seq.p rfl Ev.assign ?_
  refine Seq.nil ?_
  refine JC.rs ?_
  refine Seq.p rfl Ev.move ?_
  refine Seq.p rfl Ev.ge ?_
  refine Seq.nil ?_
  first | refine JC.c (ht := fun c12 => ?_) (hf := fun c12 => ?_) | refine JC.cb (ht := fun c12 => ?_) (hf := fun c12 => ?_)
  · -- then_t12
    exact absurd c12 (by omega)
  · -- else_t12
    refine JC.skip ?_
    refine JC.rs ?_
    refine Seq.p rfl Ev.move ?_
    refine Seq.p rfl Ev.assign ?_
    refine Seq.p rfl Ev.assign ?_
    refine Seq.p rfl Ev.assign ?_
    refine Seq.nil ?_
    refine JC.ret ?_
    -- return 0
    show retQ _ _ _ _ _ _ _ _
    refine ret3 (hp := Part.nil _) (hpost := ?_)
    unfold cutV
    rw [if_neg h]
    try rfl
set_option maxHeartbeats 1000000 in
set_option maxRecDepth 100000 in
theorem textCut {w : World} {F : List Int} (hB : isBytes F) (hl : F.length ≤ 281474976710656) : Spec Go.Proofs.Tryd.prog 78 #[.string (strOf F), .string ⟨#[61]⟩] w [] (fun u _ => u = cutV F) := by
  have hC : ∀ w, Spec Go.Proofs.Tryd.prog 99 #[.string (strOf F), .string ⟨#[61]⟩] w [] (fun u _ => u = cutV F) := fun w => by
    by_cases h : firstF 61 F < F.length
    · exact cutHit hB hl h
    · exact cutMiss hB h
  have hV : ∃ a b c, cutV F = .tuple #[.string a, .string b, .bool c] := by
    unfold cutV
    split
    · exact ⟨_, _, _, rfl⟩
    · exact ⟨_, _, _, rfl⟩
  obtain ⟨a, b, c, hV⟩ := hV
  rw [hV] at hC ⊢
  refine Spec.enter (fn := Go.Proofs.Tryd.f78) (n := 13) [.string (strOf F), .string ⟨#[61]⟩] Go.Proofs.Tryd.func78 (by kernel_rfl) rfl Go.Proofs.Tryd.ntmps78 Go.Proofs.Tryd.results78 rfl (Own.nil _) ?_
  refine JC.rs ?_
  refine Seq.p rfl Ev.assign ?_
  refine Seq.p rfl Ev.assign ?_
  refine Seq.p rfl Ev.assign ?_
  refine Seq.nil ?_
  refine JC.rs ?_
  refine Seq.p rfl Ev.move ?_
  refine Seq.p rfl Ev.move ?_
  refine Seq.callP rfl (fun w hw => hC w) ?_
  refine Seq.p rfl Ev.extract ?_
  refine Seq.p rfl Ev.extract ?_
  refine Seq.p rfl Ev.extract ?_
  refine Seq.p rfl Ev.assign ?_
  refine Seq.p rfl Ev.assign ?_
  refine Seq.p rfl Ev.assign ?_
  refine Seq.nil ?_
  refine JC.ret ?_
  -- return 0
  show retQ _ _ _ _ _ _ _ _
  refine ret3 (hp := Part.nil _) (hpost := ?_)
  rfl
end Go.Rx
/- Atoi and Itoa of any short text. -/
namespace Go.Rx
open Go Go.RowKit Go.Lib Go.Proofs.YtcggppjpnepoiaaDoor
set_option linter.unusedVariables false
set_option linter.unusedSimpArgs false
theorem atoi_nat2 {s : ByteArray} {n0 : Int} {be : Bool} (hat : atoiOk s = if be = true then none else some n0) (hs : s.size ≤ 18) :
    natF s = if ((be || decide ((⟨(itoa n0).toArray⟩ : ByteArray) ≠ s)) || decide (n0 < 0)) = true then none else some n0.toNat := by
  have key : ∀ k, natF s = some k → atoiOk s = some (k : Int) ∧ (⟨(itoa (k : Int)).toArray⟩ : ByteArray) = s := by
    intro k hk
    have h1 := natF_lt hk
    rw [natF_eq] at hk
    obtain ⟨h2, h3⟩ := numOf_some hk
    have h4 : k < 10 ^ 18 := Nat.lt_of_lt_of_le h1 (Nat.pow_le_pow_right (by decide) hs)
    have h5 : (10 : Nat) ^ 18 = 1000000000000000000 := by decide
    refine ⟨by rw [h2]; exact atoi_dec (by omega), ?_⟩
    rw [itoa_nonneg, h2]
    rfl
  cases be with
  | true =>
    simp only [if_true] at hat
    simp only [Bool.true_or, if_true]
    cases hk : natF s with
    | none => rfl
    | some k => rw [(key k hk).1] at hat; cases hat
  | false =>
    have hat2 : atoiOk s = some n0 := hat
    simp only [Bool.false_or, Bool.or_eq_true, decide_eq_true_eq]
    by_cases he : (⟨(itoa n0).toArray⟩ : ByteArray) = s ∧ 0 ≤ n0
    · rw [if_neg (by rintro (h | h); exact h he.1; omega)]
      have hb : n0 ≤ 9223372036854775807 := by
        unfold atoiOk at hat2
        cases hq : atoiAll s.data.toList with
        | ok m =>
          rw [hq] at hat2
          simp only [Option.some.injEq] at hat2
          have := atoiAll_bounds hq
          omega
        | _ => rw [hq] at hat2; cases hat2
      have hs2 : s = decS n0.toNat := by
        rw [← he.1]
        unfold decS itoa
        rw [if_neg (by omega)]
      rw [hs2, natF_eq]
      exact numOf_dec (by omega)
    · have hc : ¬ (⟨(itoa n0).toArray⟩ : ByteArray) = s ∨ n0 < 0 := by
        by_cases h1 : (⟨(itoa n0).toArray⟩ : ByteArray) = s
        · exact .inr (by have : ¬ 0 ≤ n0 := fun h => he ⟨h1, h⟩; omega)
        · exact .inl h1
      rw [if_pos hc]
      cases hk : natF s with
      | none => rfl
      | some k =>
        obtain ⟨h1, h2⟩ := key k hk
        rw [h1] at hat2
        cases hat2
        exact absurd ⟨h2, by omega⟩ he
/-- What a field's bytes say of a line so far: the error, the kind, the fields. -/
def fieldN (F : List Int) : Option Nat := if firstF 61 F < F.length ∧ firstF 61 F ≤ 4 then natF (strOf (F.take (firstF 61 F))) else none
def fieldV (F : List Int) : ByteArray := strOf (F.drop (firstF 61 F + 1))
def takeF (F : List Int) (first : Bool) (kind : ByteArray) (xs : List Tg) : Int × ByteArray × List Tg :=
  match fieldN F with
  | none => (3, kind, xs)
  | some n =>
    if first = true then (if n ≠ 35 ∨ kindB (fieldV F) = false then (3, kind, xs) else (0, fieldV F, xs))
    else if xs.length = 64 then (2, kind, xs)
    else if refusedF xs ⟨n, fieldV F⟩ ≠ 0 then (refusedF xs ⟨n, fieldV F⟩, kind, xs)
    else (0, kind, xs ++ [⟨n, fieldV F⟩])
end Go.Rx
/- The program takes a field. -/
namespace Go.Rx
open Go Go.RowKit Go.Lib Go.Proofs.YtcggppjpnepoiaaDoor
set_option linter.unusedVariables false
set_option linter.unusedSimpArgs false
def leftF (F : List Int) : ByteArray := if firstF 61 F < F.length then strOf (F.take (firstF 61 F)) else strOf F
def valS (F : List Int) : ByteArray := if firstF 61 F < F.length then fieldV F else ⟨#[]⟩
theorem cutV_eq (F : List Int) : cutV F = .tuple #[.string (leftF F), .string (valS F), .bool (decide (firstF 61 F < F.length))] := by
  unfold cutV leftF valS fieldV
  by_cases h : firstF 61 F < F.length
  · rw [if_pos h, if_pos h, if_pos h, decide_eq_true h]
  · rw [if_neg h, if_neg h, if_neg h, decide_eq_false h]
theorem take_bad {F : List Int} {n0 : Int} {be : Bool} (hat : atoiOk (leftF F) = if be = true then none else some n0)
    (h : (!decide (firstF 61 F < F.length) || be || decide (4 < ((leftF F).size : Int)) || decide ((⟨(itoa n0).toArray⟩ : ByteArray) ≠ leftF F) || decide (n0 < 0)) = true) : fieldN F = none := by
  unfold fieldN
  by_cases hk : firstF 61 F < F.length ∧ firstF 61 F ≤ 4
  · rw [if_pos hk]
    have hl : leftF F = strOf (F.take (firstF 61 F)) := if_pos hk.1
    have hs : (leftF F).size = firstF 61 F := by rw [hl, strOf_size, List.length_take]; omega
    have h2 := atoi_nat2 hat (by omega)
    rw [← hl, h2, if_pos]
    simp only [Bool.or_eq_true, Bool.not_eq_true', decide_eq_true_eq, decide_eq_false_iff_not] at h ⊢
    rcases h with (((h | h) | h) | h) | h
    · exact absurd hk.1 h
    · exact .inl (.inl h)
    · omega
    · exact .inl (.inr h)
    · exact .inr h
  · rw [if_neg hk]
theorem take_ok {F : List Int} {n0 : Int} {be : Bool} (hat : atoiOk (leftF F) = if be = true then none else some n0)
    (h : (!decide (firstF 61 F < F.length) || be || decide (4 < ((leftF F).size : Int)) || decide ((⟨(itoa n0).toArray⟩ : ByteArray) ≠ leftF F) || decide (n0 < 0)) = false) : ∃ k : Nat, n0 = k ∧ fieldN F = some k ∧ valS F = fieldV F := by
  simp only [Bool.or_eq_false_iff, Bool.not_eq_false', decide_eq_true_eq, decide_eq_false_iff_not] at h
  obtain ⟨⟨⟨⟨h1, rfl⟩, h3⟩, h4⟩, h5⟩ := h
  have hl : leftF F = strOf (F.take (firstF 61 F)) := if_pos h1
  have hs : (leftF F).size = firstF 61 F := by rw [hl, strOf_size, List.length_take]; omega
  have h2 := atoi_nat2 hat (by omega)
  refine ⟨n0.toNat, (Int.toNat_of_nonneg (by omega)).symm, ?_, if_pos h1⟩
  unfold fieldN
  rw [if_pos ⟨h1, by omega⟩, ← hl, h2, if_neg]
  simp only [Bool.false_or, Bool.or_eq_true, decide_eq_true_eq]
  rintro (h | h)
  · exact h4 h
  · exact h5 h
abbrev lineC (bk : Nat) (kind : ByteArray) (tv : Value) (size place : Int) : Chunk := .box bk 75 [.string kind, tv, .int .i64 size, .int .i64 place]
abbrev tagsC (tv : Value) (xs : List Tg) : Chunk := .own 30 2 tv xs.length (xs.flatMap Tg.enc)
set_option maxHeartbeats 1000000 in
set_option maxRecDepth 100000 in
theorem textTake {w : World} {bk : Nat} {kind : ByteArray} {A : Option Addr} {c : Nat} {xs : List Tg} {size place : Int} {F : List Int} {first : Bool} (hB : isBytes F) (hl : F.length ≤ 281474976710656) (hx : xs.length ≤ 64) {ws : World} (hL : Laid ws) (hs : Upd ws w [] [lineC bk kind (.slice A xs.length c) size place, tagsC (.slice A xs.length c) xs]) :
    Spec Go.Proofs.Tryd.prog 51 #[.pointer (some ⟨bk, 0, none⟩), .string (strOf F), .bool first] w [lineC bk kind (.slice A xs.length c) size place, tagsC (.slice A xs.length c) xs] (fun u H' => ∃ A' c', u = .int .i64 (takeF F first kind xs).1 ∧
      H' = [lineC bk (takeF F first kind xs).2.1 (.slice A' (takeF F first kind xs).2.2.length c') size place, tagsC (.slice A' (takeF F first kind xs).2.2.length c') (takeF F first kind xs).2.2]) := by
  have ho := hs.own
  have hL2 : ∀ {w' : World} {H : List Chunk}, Upd w w' [lineC bk kind (.slice A xs.length c) size place, tagsC (.slice A xs.length c) xs] H → Laid w' := fun h => hL.upd (Upd.step (F := []) hs h)
  have hsz : (leftF F).size ≤ 281474976710656 := by
    unfold leftF
    split
    · rw [strOf_size, List.length_take]; omega
    · rw [strOf_size]; omega
  have hvz : (valS F).size ≤ 281474976710656 := by
    unfold valS fieldV
    split
    · rw [strOf_size, List.length_drop]; omega
    · exact Nat.zero_le _
  refine Spec.enter (fn := Go.Proofs.Tryd.f51) (n := 86) [.pointer (some ⟨bk, 0, none⟩), .string (strOf F), .bool first] Go.Proofs.Tryd.func51 (by kernel_rfl) rfl Go.Proofs.Tryd.ntmps51 Go.Proofs.Tryd.results51 rfl ho ?_
  refine JC.rs ?_
  refine Seq.p rfl Ev.assign ?_
  refine Seq.nil ?_
  refine JC.rs ?_
  refine Seq.p rfl Ev.move ?_
  refine Seq.callP rfl (fun w hw => (cutV_eq F) ▸ textCut hB hl) ?_
  refine Seq.p rfl Ev.move ?_
  refine Seq.p rfl Ev.extract ?_
  refine Seq.p rfl Ev.extract ?_
  refine Seq.p rfl Ev.extract ?_
  refine Seq.p rfl Ev.assign ?_
  refine Seq.p rfl Ev.assign ?_
  refine Seq.p rfl Ev.assign ?_
  refine Seq.nil ?_
  refine JC.rs ?_
  refine Seq.p rfl Ev.move ?_
  refine Seq.call rfl (fun w hw => textAtoi hsz (hL2 hw)) (Gs := []) (F := _) (by exact List.Perm.refl _) ?_
  rintro _ _ ⟨n0, er, be, rfl, rfl, her, hat, hn0, hn1⟩
  simp only [List.nil_append]
  refine Seq.p rfl Ev.move ?_
  refine Seq.p rfl Ev.extract ?_
  refine Seq.p rfl Ev.extract ?_
  refine Seq.p rfl Ev.assign ?_
  refine Seq.p rfl Ev.assign ?_
  refine Seq.nil ?_
  refine JC.seq ?_
  refine JC.rs ?_
  refine Seq.p rfl Ev.move ?_
  refine Seq.p rfl Ev.not ?_
  refine Seq.p rfl Ev.move ?_
  refine Seq.orG (D := [27, 28, 29, 30]) (d := 27) (t := 30) (k := 3) (hn := fun h27 => ?_) (hx := ?_)
  · repeat (first | refine Seq.gn rfl rfl rfl rfl ?_ | refine Seq.gu rfl rfl rfl ?_)
    refine Seq.p rfl Ev.pickT ?_
    exact Seq.nil ⟨rfl, (by repeat (first | with_reducible exact Off.refl | refine Off.upd ?_ rfl | exact Off.mix | refine Off.mix2 ?_ rfl)), Look.here⟩
  apply Exists.intro
  refine ⟨fun h27 => ?_, fun u30 => ?_⟩
  · try simp only [decide_eq_true_eq, decide_eq_false_iff_not, Bool.and_eq_true, Bool.or_eq_true, Bool.not_eq_true', Bool.not_eq_false', Bool.or_eq_false_iff, Bool.and_eq_false_imp] at h27
    refine Seq.gy rfl rfl rfl ?_
    refine Seq.p rfl Ev.move ?_
    refine Seq.gy rfl rfl rfl ?_
    refine Seq.p rfl (Ev.neErr her (by kernel_rfl)) ?_
    refine Seq.p rfl Ev.pickF ?_
    exact Seq.nil ⟨rfl, (by repeat (first | with_reducible exact Off.refl | refine Off.upd ?_ rfl | exact Off.mix | refine Off.mix2 ?_ rfl)), Look.here⟩
  refine Seq.p rfl Ev.move ?_
  refine Seq.orG (D := [31, 32, 33, 34, 35]) (d := 31) (t := 35) (k := 4) (hn := fun h31 => ?_) (hx := ?_)
  · repeat (first | refine Seq.gn rfl rfl rfl rfl ?_ | refine Seq.gu rfl rfl rfl ?_)
    refine Seq.p rfl Ev.pickT ?_
    exact Seq.nil ⟨rfl, (by repeat (first | with_reducible exact Off.refl | refine Off.upd ?_ rfl | exact Off.mix | refine Off.mix2 ?_ rfl)), Look.here⟩
  apply Exists.intro
  refine ⟨fun h31 => ?_, fun u35 => ?_⟩
  · try simp only [decide_eq_true_eq, decide_eq_false_iff_not, Bool.and_eq_true, Bool.or_eq_true, Bool.not_eq_true', Bool.not_eq_false', Bool.or_eq_false_iff, Bool.and_eq_false_imp] at h31
    refine Seq.gy rfl rfl rfl ?_
    refine Seq.p rfl Ev.move ?_
    refine Seq.gy rfl rfl rfl ?_
    refine Seq.p rfl (Ev.lenStr st.string) ?_
    refine Seq.gy rfl rfl rfl ?_
    refine Seq.p rfl Ev.gt ?_
    refine Seq.p rfl Ev.pickF ?_
    exact Seq.nil ⟨rfl, (by repeat (first | with_reducible exact Off.refl | refine Off.upd ?_ rfl | exact Off.mix | refine Off.mix2 ?_ rfl)), Look.here⟩
  refine Seq.p rfl Ev.move ?_
  refine Seq.orG (D := [36, 37, 38, 39, 40, 41]) (d := 36) (t := 41) (k := 5) (hn := fun h36 => ?_) (hx := ?_)
  · repeat (first | refine Seq.gn rfl rfl rfl rfl ?_ | refine Seq.gu rfl rfl rfl ?_)
    refine Seq.p rfl Ev.pickT ?_
    exact Seq.nil ⟨rfl, (by repeat (first | with_reducible exact Off.refl | refine Off.upd ?_ rfl | exact Off.mix | refine Off.mix2 ?_ rfl)), Look.here⟩
  apply Exists.intro
  refine ⟨fun h36 => ?_, fun u41 => ?_⟩
  · try simp only [decide_eq_true_eq, decide_eq_false_iff_not, Bool.and_eq_true, Bool.or_eq_true, Bool.not_eq_true', Bool.not_eq_false', Bool.or_eq_false_iff, Bool.and_eq_false_imp] at h36
    refine Seq.gy rfl rfl rfl ?_
    refine Seq.p rfl Ev.move ?_
    refine Seq.gy rfl rfl rfl ?_
    refine Seq.callP rfl (fun w hw => textItoa hn0 hn1 (hL2 hw)) ?_
    refine Seq.gy rfl rfl rfl ?_
    refine Seq.p rfl Ev.move ?_
    refine Seq.gy rfl rfl rfl ?_
    refine Seq.p rfl Ev.neStr ?_
    refine Seq.p rfl Ev.pickF ?_
    exact Seq.nil ⟨rfl, (by repeat (first | with_reducible exact Off.refl | refine Off.upd ?_ rfl | exact Off.mix | refine Off.mix2 ?_ rfl)), Look.here⟩
  refine Seq.p rfl Ev.move ?_
  refine Seq.orG (D := [42, 43, 44, 45]) (d := 42) (t := 45) (k := 3) (hn := fun h42 => ?_) (hx := ?_)
  · repeat (first | refine Seq.gn rfl rfl rfl rfl ?_ | refine Seq.gu rfl rfl rfl ?_)
    refine Seq.p rfl Ev.pickT ?_
    exact Seq.nil ⟨rfl, (by repeat (first | with_reducible exact Off.refl | refine Off.upd ?_ rfl | exact Off.mix | refine Off.mix2 ?_ rfl)), Look.here⟩
  apply Exists.intro
  refine ⟨fun h42 => ?_, fun u45 => ?_⟩
  · try simp only [decide_eq_true_eq, decide_eq_false_iff_not, Bool.and_eq_true, Bool.or_eq_true, Bool.not_eq_true', Bool.not_eq_false', Bool.or_eq_false_iff, Bool.and_eq_false_imp] at h42
    refine Seq.gy rfl rfl rfl ?_
    refine Seq.p rfl Ev.move ?_
    refine Seq.gy rfl rfl rfl ?_
    refine Seq.p rfl Ev.lt ?_
    refine Seq.p rfl Ev.pickF ?_
    exact Seq.nil ⟨rfl, (by repeat (first | with_reducible exact Off.refl | refine Off.upd ?_ rfl | exact Off.mix | refine Off.mix2 ?_ rfl)), Look.here⟩
  refine Seq.nil ?_
  first | refine JC.c (ht := fun c45 => ?_) (hf := fun c45 => ?_) | refine JC.cb (ht := fun c45 => ?_) (hf := fun c45 => ?_)
  · -- then_t45
    have hf := take_bad hat c45
    have e : takeF F first kind xs = (3, kind, xs) := by unfold takeF; rw [hf]
    refine JC.rs ?_
    refine Seq.p rfl Ev.assign ?_
    refine Seq.nil ?_
    refine JC.ret ?_
    -- return 0
    show retQ _ _ _ _ _ _ _ _
    refine ret1 (H' := [lineC bk kind (.slice A xs.length c) size place, tagsC (.slice A xs.length c) xs]) (hp := Part.refl _) (hpost := ?_)
    rw [e]
    exact ⟨A, c, rfl, rfl⟩
  · -- else_t45
    obtain ⟨k, rfl, hf, hv⟩ := take_ok hat c45
    refine JC.skip ?_
    refine JC.seq ?_
    refine JC.rs ?_
    refine Seq.p rfl Ev.move ?_
    refine Seq.nil ?_
    first | refine JC.c (ht := fun c46 => ?_) (hf := fun c46 => ?_) | refine JC.cb (ht := fun c46 => ?_) (hf := fun c46 => ?_)
    · -- then_t46
      refine JC.seq ?_
      refine JC.rs ?_
      refine Seq.p rfl Ev.move ?_
      refine Seq.p rfl Ev.ne ?_
      refine Seq.p rfl Ev.move ?_
      refine Seq.orG (D := [49, 50, 51, 52, 53]) (d := 49) (t := 53) (k := 4) (hn := fun h49 => ?_) (hx := ?_)
      · repeat (first | refine Seq.gn rfl rfl rfl rfl ?_ | refine Seq.gu rfl rfl rfl ?_)
        refine Seq.p rfl Ev.pickT ?_
        exact Seq.nil ⟨rfl, (by repeat (first | with_reducible exact Off.refl | refine Off.upd ?_ rfl | exact Off.mix | refine Off.mix2 ?_ rfl)), Look.here⟩
      apply Exists.intro
      refine ⟨fun h49 => ?_, fun u53 => ?_⟩
      · try simp only [decide_eq_true_eq, decide_eq_false_iff_not, Bool.and_eq_true, Bool.or_eq_true, Bool.not_eq_true', Bool.not_eq_false', Bool.or_eq_false_iff, Bool.and_eq_false_imp] at h49
        refine Seq.gy rfl rfl rfl ?_
        refine Seq.p rfl Ev.move ?_
        refine Seq.gy rfl rfl rfl ?_
        refine Seq.callP rfl (fun w hw => textIsKind hvz) ?_
        refine Seq.gy rfl rfl rfl ?_
        refine Seq.p rfl Ev.not ?_
        refine Seq.p rfl Ev.pickF ?_
        exact Seq.nil ⟨rfl, (by repeat (first | with_reducible exact Off.refl | refine Off.upd ?_ rfl | exact Off.mix | refine Off.mix2 ?_ rfl)), Look.here⟩
      refine Seq.nil ?_
      first | refine JC.c (ht := fun c53 => ?_) (hf := fun c53 => ?_) | refine JC.cb (ht := fun c53 => ?_) (hf := fun c53 => ?_)
      · -- then_t53
        refine JC.rs ?_
        refine Seq.p rfl Ev.assign ?_
        refine Seq.nil ?_
        refine JC.ret ?_
        -- return 1
        show retQ _ _ _ _ _ _ _ _
        refine ret1 (H' := [lineC bk kind (.slice A xs.length c) size place, tagsC (.slice A xs.length c) xs]) (hp := Part.refl _) (hpost := ?_)
        have e : takeF F first kind xs = (3, kind, xs) := by unfold takeF; rw [hf]; simp only; rw [if_pos c46, if_pos]; rw [hv] at c53; simp only [Bool.or_eq_true, Bool.not_eq_true', decide_eq_true_eq] at c53; rcases c53 with h | h; exact .inl (by omega); exact .inr h
        rw [e]
        exact ⟨A, c, rfl, rfl⟩
      · -- else_t53
        refine JC.skip ?_
        refine JC.rs ?_
        refine Seq.p rfl Ev.move ?_
        refine Seq.p rfl Ev.move ?_
        refine Seq.p rfl Ev.nilP ?_
        refine Seq.p rfl (Ev.faB fd.text_line_0) ?_
        refine Seq.storeN [_, _, _, _] sz.string (k := ?_)
        refine Seq.nil ?_
        refine JC.rs ?_
        refine Seq.p rfl Ev.assign ?_
        refine Seq.nil ?_
        refine JC.ret ?_
        -- return 2
        show retQ _ _ _ _ _ _ _ _
        refine ret1 (H' := [lineC bk (valS F) (.slice A xs.length c) size place, tagsC (.slice A xs.length c) xs]) (hp := Part.refl _) (hpost := ?_)
        have e : takeF F first kind xs = (0, fieldV F, xs) := by unfold takeF; rw [hf]; simp only; rw [if_pos c46, if_neg]; rw [hv] at c53; simp only [Bool.or_eq_false_iff, Bool.not_eq_false', decide_eq_false_iff_not] at c53; rintro (h | h); exact c53.1 (by omega); rw [c53.2] at h; cases h
        rw [e, hv]
        exact ⟨A, c, rfl, rfl⟩
    · -- else_t46
      refine JC.skip ?_
      refine JC.rs ?_
      refine Seq.p rfl Ev.move ?_
      refine Seq.p rfl Ev.move ?_
      refine Seq.p rfl (Ev.buildN [_, _] pl.api_Tag z.api_Tag) ?_
      refine Seq.alloc (cs := [_, _]) (hz := z.api_Tag) (k := ?_); intro b12
      refine Seq.storeN [_, _] sz.api_Tag (k := ?_)
      refine Seq.nil ?_
      refine JC.seq ?_
      refine JC.rs ?_
      refine Seq.p rfl Ev.move ?_
      refine Seq.p rfl Ev.nilP ?_
      refine Seq.p rfl (Ev.faB fd.text_line_1) ?_
      refine Seq.p rfl (Ev.ldB sc.sl_api_Tag) ?_
      refine Seq.p rfl (Ev.lenSl sl.sl_api_Tag (hr := RAt.own (enc := Tg.enc) (xs := xs))) ?_
      refine Seq.p rfl Ev.eq ?_
      refine Seq.nil ?_
      first | refine JC.c (ht := fun c66 => ?_) (hf := fun c66 => ?_) | refine JC.cb (ht := fun c66 => ?_) (hf := fun c66 => ?_)
      · -- then_t66
        refine JC.rs ?_
        refine Seq.p rfl Ev.assign ?_
        refine Seq.nil ?_
        refine JC.ret ?_
        -- return 3
        show retQ _ _ _ _ _ _ _ _
        refine ret1 (H' := [lineC bk kind (.slice A xs.length c) size place, tagsC (.slice A xs.length c) xs]) (hp := Part.skip (Part.refl _)) (hpost := ?_)
        have e : takeF F first kind xs = (2, kind, xs) := by unfold takeF; rw [hf]; simp only; rw [if_neg (by simp [c46]), if_pos (by omega)]
        rw [e]
        exact ⟨A, c, rfl, rfl⟩
      · -- else_t66
        refine JC.skip ?_
        refine JC.seq ?_
        refine JC.qs mixed (by kernel_rfl) ?_
        refine Qui.p rfl Ev.move ?_
        refine Qui.p rfl Ev.nilP ?_
        refine Qui.p rfl (Ev.faB fd.text_line_1) ?_
        refine Qui.p rfl (Ev.ldB sc.sl_api_Tag) ?_
        refine Qui.p rfl (Ev.ldBA ag.api_Tag) ?_
        refine Qui.call rfl (fun w hw => textRefused (t := ⟨(k : Int), valS F⟩) (RAt.up (RAt.own (enc := Tg.enc) (xs := xs)) hw) hvz) ?_
        refine Qui.p rfl Ev.assign ?_
        refine Qui.nil ?_
        refine JC.rs ?_
        refine Seq.p rfl Ev.move ?_
        refine Seq.p rfl Ev.ne ?_
        refine Seq.nil ?_
        first | refine JC.c (ht := fun c74 => ?_) (hf := fun c74 => ?_) | refine JC.cb (ht := fun c74 => ?_) (hf := fun c74 => ?_)
        · -- then_t74
          refine JC.rs ?_
          refine Seq.p rfl Ev.move ?_
          refine Seq.p rfl Ev.assign ?_
          refine Seq.nil ?_
          refine JC.ret ?_
          -- return 4
          show retQ _ _ _ _ _ _ _ _
          refine ret1 (H' := [lineC bk kind (.slice A xs.length c) size place, tagsC (.slice A xs.length c) xs]) (hp := Part.skip (Part.refl _)) (hpost := ?_)
          have e : takeF F first kind xs = (refusedF xs ⟨k, fieldV F⟩, kind, xs) := by unfold takeF; rw [hf]; simp only; rw [if_neg (by simp [c46]), if_neg (by omega), if_pos (by rw [hv] at c74; exact c74)]
          rw [e, hv]
          exact ⟨A, c, rfl, rfl⟩
        · -- else_t74
          refine JC.skip ?_
          refine JC.asP ([.box b12 30 [.int .i64 (k : Int), .string (valS F)]]) mixed (by repeat (first | exact Part.refl _ | exact Part.nil _ | apply Part.here | apply Part.skip)) ?_
          refine Any.p 0 rfl (by kernel_rfl) (by kernel_rfl) (by kernel_rfl) rfl Ev.move ?_
          refine Any.p 1 rfl (by kernel_rfl) (by kernel_rfl) (by kernel_rfl) rfl Ev.move ?_
          refine Any.p 2 rfl (by kernel_rfl) (by kernel_rfl) (by kernel_rfl) rfl Ev.nilP ?_
          refine Any.p 3 rfl (by kernel_rfl) (by kernel_rfl) (by kernel_rfl) rfl (Ev.faB fd.text_line_1) ?_
          refine Any.p 5 rfl (by kernel_rfl) (by kernel_rfl) (by kernel_rfl) rfl (Ev.ldBA ag.api_Tag) ?_
          refine Any.two 4 6 rfl rfl (by kernel_rfl) ?_ ?_
          · -- first 4
            refine Seq.p rfl (Ev.ldB sc.sl_api_Tag) ?_
            refine Seq.nil ⟨(by repeat (first | exact Part.refl _ | exact Part.nil _ | apply Part.here | apply Part.skip)), ?_⟩
            refine Any.one 6 rfl (by kernel_rfl) ?_
            refine Seq.buildSlN [_, _] (hsl := sl.sl_api_Tag) (hz := z.api_Tag) (k := ?_); intro b82
            refine Seq.nil ⟨(by repeat (first | exact Part.refl _ | exact Part.nil _ | apply Part.here | apply Part.skip)), ?_⟩
            refine Any.one 7 rfl (by kernel_rfl) ?_
            refine Seq.append (hsl := sl.sl_api_Tag) (he := el.api_Tag) (hsrc := (fun w' hw => Src.box (hl := by rfl) (hc := fun q u hu => hu) sl.sl_api_Tag At.z hw)) (k := ?_); intro A83 c83
            refine Seq.nil ⟨(by repeat (first | exact Part.refl _ | exact Part.nil _ | apply Part.here | apply Part.skip)), ?_⟩
            refine Any.p 8 rfl (by kernel_rfl) (by kernel_rfl) (by kernel_rfl) rfl Ev.nilP ?_
            refine Any.p 9 rfl (by kernel_rfl) (by kernel_rfl) (by kernel_rfl) rfl (Ev.faB fd.text_line_1) ?_
            refine Any.one 10 rfl (by kernel_rfl) ?_
            refine Seq.storeN [_, _, _, _] sz.sl_api_Tag (k := ?_)
            refine Seq.nil ⟨(by repeat (first | exact Part.refl _ | exact Part.nil _ | apply Part.here | apply Part.skip)), ?_⟩
            refine Any.done (by kernel_rfl) ?_
            refine JC.rs ?_
            refine Seq.p rfl Ev.assign ?_
            refine Seq.nil ?_
            refine JC.ret ?_
            -- return 5
            show retQ _ _ _ _ _ _ _ _
            refine ret1 (H' := [lineC bk kind (.slice A83 (xs.length + 1) c83) size place, .own 30 2 (.slice A83 (xs.length + 1) c83) (xs.length + 1) (xs.flatMap Tg.enc ++ [.int .i64 (k : Int), .string (valS F)])]) (hp := Part.skip (Part.skip (Part.refl _))) (hpost := ?_)
            have e : takeF F first kind xs = (0, kind, xs ++ [⟨k, fieldV F⟩]) := by unfold takeF; rw [hf]; simp only; rw [if_neg (by simp [c46]), if_neg (by omega), if_neg (by rw [hv] at c74; exact c74)]
            rw [e, hv]
            refine ⟨A83, c83, rfl, ?_⟩
            simp [tagsC, Tg.enc, List.flatMap_append]
          · -- first 6
            refine Seq.buildSlN [_, _] (hsl := sl.sl_api_Tag) (hz := z.api_Tag) (k := ?_); intro b82
            refine Seq.nil ⟨(by repeat (first | exact Part.refl _ | exact Part.nil _ | apply Part.here | apply Part.skip)), ?_⟩
            refine Any.one 4 rfl (by kernel_rfl) ?_
            refine Seq.p rfl (Ev.ldB sc.sl_api_Tag) ?_
            refine Seq.nil ⟨(by repeat (first | exact Part.refl _ | exact Part.nil _ | apply Part.here | apply Part.skip)), ?_⟩
            refine Any.one 7 rfl (by kernel_rfl) ?_
            refine Seq.append (hsl := sl.sl_api_Tag) (he := el.api_Tag) (hsrc := (fun w' hw => Src.box (hl := by rfl) (hc := fun q u hu => hu) sl.sl_api_Tag At.z hw)) (k := ?_); intro A83 c83
            refine Seq.nil ⟨(by repeat (first | exact Part.refl _ | exact Part.nil _ | apply Part.here | apply Part.skip)), ?_⟩
            refine Any.p 8 rfl (by kernel_rfl) (by kernel_rfl) (by kernel_rfl) rfl Ev.nilP ?_
            refine Any.p 9 rfl (by kernel_rfl) (by kernel_rfl) (by kernel_rfl) rfl (Ev.faB fd.text_line_1) ?_
            refine Any.one 10 rfl (by kernel_rfl) ?_
            refine Seq.storeN [_, _, _, _] sz.sl_api_Tag (k := ?_)
            refine Seq.nil ⟨(by repeat (first | exact Part.refl _ | exact Part.nil _ | apply Part.here | apply Part.skip)), ?_⟩
            refine Any.done (by kernel_rfl) ?_
            refine JC.rs ?_
            refine Seq.p rfl Ev.assign ?_
            refine Seq.nil ?_
            refine JC.ret ?_
            -- return 6
            show retQ _ _ _ _ _ _ _ _
            refine ret1 (H' := [lineC bk kind (.slice A83 (xs.length + 1) c83) size place, .own 30 2 (.slice A83 (xs.length + 1) c83) (xs.length + 1) (xs.flatMap Tg.enc ++ [.int .i64 (k : Int), .string (valS F)])]) (hp := Part.skip (Part.skip (Part.refl _))) (hpost := ?_)
            have e : takeF F first kind xs = (0, kind, xs ++ [⟨k, fieldV F⟩]) := by unfold takeF; rw [hf]; simp only; rw [if_neg (by simp [c46]), if_neg (by omega), if_neg (by rw [hv] at c74; exact c74)]
            rw [e, hv]
            refine ⟨A83, c83, rfl, ?_⟩
            simp [tagsC, Tg.enc, List.flatMap_append]
end Go.Rx
/- bytes.IndexByte at a slice that is read: the first place of a byte. -/
namespace Go.Rx
open Go Go.RowKit Go.Proofs.YtcggppjpnepoiaaDoor
set_option linter.unusedVariables false
theorem textIndexByte {w : World} {A : Option Addr} {c : Nat} {l : List Int} (hr : RSl byteEnc 1 w [] (.slice A l.length c) l) (hne : l ≠ []) (hB : isBytes l) :
    Spec Go.Proofs.Tryd.prog 50 #[.slice A l.length c, .int .u8 1] w [] (fun u _ => u = .int .i64 (if firstF 1 l < l.length then (firstF 1 l : Int) else -1)) := by
  obtain ⟨A', c', hv, _, hA⟩ := hr.shape
  cases hv
  cases A with
  | none => exact absurd (hA rfl) hne
  | some a =>
    have hc : ∀ i, i < l.length → w.cell? (a.add i) = some (.int .u8 (l.getD i 0)) := by
      intro i hi
      have h1 := (hr.cell i hi 0 (.int .u8 l[i]!) rfl).1
      have e1 : l.getD i 0 = l[i]! := by rw [getElem!_pos l i hi]; simp [List.getD, hi]
      rw [e1]
      simpa [sbase] using h1
    refine spec_of_below ⟨Go.Proofs.Tryd.f50, Go.Proofs.Tryd.func50, by kernel_rfl, rfl⟩ ((Go.Proofs.Tryd.bytes_IndexByte_at a l.length c l 1 w rfl hc).mono ?_)
    rintro e w' ⟨rfl, rfl⟩
    refine ⟨?_, Below.refl _ _⟩
    have h2 := indexByte_first (c := 1) hB
    have e2 : Lib.bytesOf l = l.map fun n => UInt8.ofNat n.toNat := rfl
    rw [e2]
    have e3 : (Int.toNat 1).toUInt8 = (1 : UInt8) := rfl
    rw [e3, h2]
    rfl
end Go.Rx
/- What a body's fields say, and what a line is read as: plain functions. -/
namespace Go.Rx
open Go Go.RowKit Go.Lib Go.Proofs.YtcggppjpnepoiaaDoor
set_option linter.unusedVariables false
set_option linter.unusedSimpArgs false
/-- The bytes up to the next 1. -/
def fieldAt (l : List Int) (p : Nat) : List Int := (l.drop p).take (firstF 1 (l.drop p))
inductive PartA
  | bad (p : Nat) (e : Int)
  | ok (kind : ByteArray) (xs : List Tg)
def partsF (l : List Int) (from_ to p : Nat) (kind : ByteArray) (xs : List Tg) : PartA :=
  if p < to then
    if (takeF (fieldAt l p) (decide (p = from_)) kind xs).1 ≠ 0 then .bad p (takeF (fieldAt l p) (decide (p = from_)) kind xs).1
    else partsF l from_ to (p + firstF 1 (l.drop p) + 1) (takeF (fieldAt l p) (decide (p = from_)) kind xs).2.1 (takeF (fieldAt l p) (decide (p = from_)) kind xs).2.2
  else .ok kind xs
termination_by to - p
theorem partsF_end {l : List Int} {f to p : Nat} {kind : ByteArray} {xs : List Tg} (h : ¬ p < to) : partsF l f to p kind xs = .ok kind xs := by
  rw [partsF, if_neg h]
theorem partsF_bad {l : List Int} {f to p : Nat} {kind kind' : ByteArray} {xs xs' : List Tg} {e : Int} (h : p < to) (ht : takeF (fieldAt l p) (decide (p = f)) kind xs = (e, kind', xs')) (he : e ≠ 0) : partsF l f to p kind xs = .bad p e := by
  rw [partsF, if_pos h, ht]
  exact if_pos he
theorem partsF_step {l : List Int} {f to p : Nat} {kind kind' : ByteArray} {xs xs' : List Tg} (h : p < to) (ht : takeF (fieldAt l p) (decide (p = f)) kind xs = (0, kind', xs')) : partsF l f to p kind xs = partsF l f to (p + firstF 1 (l.drop p) + 1) kind' xs' := by
  rw [partsF, if_pos h, ht]
  exact if_neg (fun h => h rfl)
theorem partsF_why {l : List Int} {f to : Nat} {q : Nat} {e : Int} : ∀ {p : Nat} {kind : ByteArray} {xs : List Tg}, partsF l f to p kind xs = .bad q e → e ≠ 0 := by
  intro p kind xs h
  generalize hd : to - p = d
  induction d using Nat.strongRecOn generalizing p kind xs with
  | _ d ih =>
    rw [partsF] at h
    split at h
    · split at h
      · rename_i h2
        cases h
        exact h2
      · exact ih (to - (p + firstF 1 (l.drop p) + 1)) (by omega) h rfl
    · cases h
theorem takeF_len {F : List Int} {first : Bool} {kind : ByteArray} {xs : List Tg} (h : xs.length ≤ 64) : (takeF F first kind xs).2.2.length ≤ 64 := by
  unfold takeF
  split
  · exact h
  · split
    · split <;> exact h
    · split
      · exact h
      · split
        · exact h
        · simp
          omega
theorem firstF_hit {c : Int} : ∀ {l : List Int} {i : Nat}, i < l.length → l[i]! = c → firstF c l ≤ i
  | [], i, h, _ => by simp at h
  | x :: r, 0, h, hc => by
    have : x = c := by simpa using hc
    unfold firstF
    rw [if_pos this]
    exact Nat.le_refl _
  | x :: r, i + 1, h, hc => by
    unfold firstF
    split
    · exact Nat.zero_le _
    · have := firstF_hit (l := r) (i := i) (by simpa using h) (by simpa using hc)
      omega
theorem firstF_get {c : Int} : ∀ {l : List Int}, firstF c l < l.length → l[firstF c l]! = c
  | [], h => by simp at h
  | x :: r, h => by
    unfold firstF at h ⊢
    split
    · rename_i hx
      simpa using hx
    · rename_i hx
      rw [if_neg hx] at h
      have := firstF_get (l := r) (by simpa using h)
      simpa using this
theorem firstF_lt {c : Int} : ∀ {l : List Int} {i : Nat}, i < firstF c l → l[i]! ≠ c
  | [], i, h => by simp [firstF] at h
  | x :: r, 0, h => by
    unfold firstF at h
    split at h
    · omega
    · simpa using ‹¬ x = c›
  | x :: r, i + 1, h => by
    unfold firstF at h
    split at h
    · omega
    · have := firstF_lt (c := c) (l := r) (i := i) (by omega)
      simpa using this
theorem firstF_eq {c : Int} {l : List Int} {i : Nat} (hi : i ≤ l.length) (h1 : ∀ j < i, l[j]! ≠ c) (h2 : i < l.length → l[i]! = c) : firstF c l = i := by
  have hle := firstF_le c l
  rcases Nat.lt_trichotomy (firstF c l) i with h | h | h
  · exact absurd (firstF_get (by omega)) (h1 _ h)
  · exact h
  · exact absurd (h2 (by omega)) (firstF_lt h)
theorem get_drop {l : List Int} {p j : Nat} (h : p + j < l.length) : (l.drop p)[j]! = l[p + j]! := by
  rw [getElem!_pos l (p + j) h, getElem!_pos (l.drop p) j (by rw [List.length_drop]; omega)]
  simp
theorem get_take {l : List Int} {p j : Nat} (h : j < p) (hl : j < l.length) : (l.take p)[j]! = l[j]! := by
  rw [getElem!_pos l j hl, getElem!_pos (l.take p) j (by rw [List.length_take]; omega)]
  simp
/-- A next 1 stands within the body. -/
theorem first_in {l : List Int} {to p : Nat} (h : p < to) (ht : to ≤ l.length) (h1 : l[to - 1]! = 1) : p + firstF 1 (l.drop p) < to := by
  have h2 : firstF 1 (l.drop p) ≤ to - 1 - p := firstF_hit (by rw [List.length_drop]; omega) (by rw [get_drop (by omega), show p + (to - 1 - p) = to - 1 by omega]; exact h1)
  omega
structure ReadA where
  kind : ByteArray
  tags : List Tg
  place : Int
  why : Int
  size : Nat
def badA (a c : Int) : ReadA := ⟨⟨#[]⟩, [], a, c, 0⟩
def partA (s : Nat) : PartA → ReadA
  | .bad p e => ⟨⟨#[]⟩, [], p, e, s⟩
  | .ok kind xs => ⟨kind, xs, (s : Nat), 0, s⟩
/-- What a line is read as. -/
def readF (l : List Int) : ReadA :=
  match headF l with
  | .bad a c => badA a c
  | .ok f k =>
    if 2048 < f + k + 7 then badA 10 2
    else if l.length < f + k + 7 then badA l.length 20
    else if trailB ((l.drop (f + k)).take 7) = false ∨ k = 0 ∨ l[f + k - 1]! ≠ 1 then badA (f + k : Nat) 32
    else if (l.drop (f + k)).take 7 ≠ lastL (l.take (f + k)) then badA (f + k : Nat) 33
    else partA (f + k + 7) (partsF l f (f + k) f ⟨#[]⟩ [])
end Go.Rx
/- The document's fields of a body. -/
namespace Go.Rx
open Go Go.RowKit Go.Lib Go.Proofs.YtcggppjpnepoiaaDoor
set_option linter.unusedVariables false
set_option linter.unusedSimpArgs false
abbrev ansC (bk : Nat) (kind : ByteArray) (tv : Value) (at_ why : Int) (whole : Bool) (size : Int) : Chunk := .box bk 79 [.string kind, tv, .int .i64 at_, .int .i64 why, .bool whole, .int .i64 size]
def ansV (a : ReadA) (A : Option Addr) (c : Nat) (whole : Bool) (size : Int) : Value := .agg #[.string a.kind, .slice A a.tags.length c, .int .i64 a.place, .int .i64 a.why, .bool whole, .int .i64 size]
/-- What 'parts' tells. -/
def partsA : PartA → ReadA
  | .bad p e => ⟨⟨#[]⟩, [], p, e, 0⟩
  | .ok kind xs => ⟨kind, xs, 0, 0, 0⟩
theorem ref_none {F : List Int} {k : Nat} {bk : Bool} {q : Nat} (hk : firstF 61 F = k) (hkk : natF (strOf (F.take k)) = if bk = true then some q else none)
    (h : k = F.length ∨ bk = false ∨ 4 < k) : fieldN F = none := by
  unfold fieldN
  have hle := firstF_le 61 F
  rw [hk]
  by_cases h1 : k < F.length ∧ k ≤ 4
  · rw [if_pos h1, hkk]
    cases bk with
    | false => rfl
    | true => simp at h; omega
  · rw [if_neg h1]
theorem ref_some {F : List Int} {k : Nat} {bk : Bool} {q : Nat} (hk : firstF 61 F = k) (hkk : natF (strOf (F.take k)) = if bk = true then some q else none)
    (h1 : k ≠ F.length) (hb : bk = true) (h2 : k ≤ 4) : fieldN F = some q ∧ q < 10000 := by
  subst hb
  have hle := firstF_le 61 F
  simp only [if_true] at hkk
  refine ⟨?_, ?_⟩
  · unfold fieldN
    rw [hk, if_pos ⟨by omega, by omega⟩, hkk]
  · have h3 := natF_lt hkk
    rw [strOf_size] at h3
    have h4 : (F.take k).length ≤ 4 := by rw [List.length_take]; omega
    exact Nat.lt_of_lt_of_le h3 (Nat.pow_le_pow_right (by decide) h4)
theorem fieldAt_len {l : List Int} {p : Nat} : (fieldAt l p).length = firstF 1 (l.drop p) := by
  have := firstF_le 1 (l.drop p)
  unfold fieldAt
  rw [List.length_take]
  omega
theorem takeF_none {F : List Int} {first : Bool} {kind : ByteArray} {xs : List Tg} (h : fieldN F = none) : takeF F first kind xs = (3, kind, xs) := by
  unfold takeF
  rw [h]
theorem takeF_first {F : List Int} {kind : ByteArray} {xs : List Tg} {n : Nat} (h : fieldN F = some n) : takeF F true kind xs = if n ≠ 35 ∨ kindB (fieldV F) = false then (3, kind, xs) else (0, fieldV F, xs) := by
  unfold takeF
  rw [h]
  rfl
theorem takeF_next {F : List Int} {kind : ByteArray} {xs : List Tg} {n : Nat} (h : fieldN F = some n) : takeF F false kind xs = if xs.length = 64 then (2, kind, xs)
    else if refusedF xs ⟨n, fieldV F⟩ ≠ 0 then (refusedF xs ⟨n, fieldV F⟩, kind, xs) else (0, kind, xs ++ [⟨n, fieldV F⟩]) := by
  unfold takeF
  rw [h]
  rfl
abbrev nilC : Chunk := .own 30 2 (.slice none 0 0) 0 []
set_option maxHeartbeats 4000000 in
set_option maxRecDepth 100000 in
theorem refParts {w : World} {v : Value} {l : List Int} {f to : Nat} (hr : RSl byteEnc 1 w [] v l) (hB : isBytes l) (hl : l.length ≤ 281474976710656) (hf : f ≤ to) (ht : to ≤ l.length) (h1 : l[to - 1]! = 1) :
    Spec Go.Proofs.Tryd.prog 55 #[v, .int .i64 (f : Int), .int .i64 (to : Int)] w [] (fun u H' => ∃ A c, u = ansV (partsA (partsF l f to f ⟨#[]⟩ [])) A c false 0 ∧ H' = [tagsC (.slice A (partsA (partsF l f to f ⟨#[]⟩ [])).tags.length c) (partsA (partsF l f to f ⟨#[]⟩ [])).tags]) := by
  refine Spec.enter (fn := Go.Proofs.Tryd.f55) (n := 122) [v, .int .i64 (f : Int), .int .i64 (to : Int)] Go.Proofs.Tryd.func55 (by kernel_rfl) rfl Go.Proofs.Tryd.ntmps55 Go.Proofs.Tryd.results55 rfl (Own.nil _) ?_
  refine JC.re (fun w h => (h.nilOwn 30 2).nilOwn 30 2) ?_
  refine JC.rs ?_
  refine Seq.alloc (cs := [_, _, _, _, _, _]) (hz := z.bourseref03_Answer) (k := ?_); intro b6
  refine Seq.nil ?_
  refine JC.rs ?_
  refine Seq.p rfl (Ev.buildN [_, _, _, _, _, _] pl.bourseref03_Answer z.bourseref03_Answer) ?_
  refine Seq.alloc (cs := [_, _, _, _, _, _]) (hz := z.bourseref03_Answer) (k := ?_); intro b7
  refine Seq.storeN [_, _, _, _, _, _] sz.bourseref03_Answer (k := ?_)
  refine Seq.nil ?_
  refine JC.seq ?_
  refine JC.rs ?_
  refine Seq.p rfl Ev.move ?_
  refine Seq.p rfl Ev.assign ?_
  refine Seq.nil ?_
  refine JC.blk ?_
  refine JC.loop (α := Nat) (I := fun p e1 H1 => ∃ kind A c xs, Has [8, 9, 10, 11, 12, 13, 16, 17, 18, 19, 20, 21, 22, 23, 24, 25, 26, 27, 28, 29, 30, 31, 32, 33, 34, 35, 36, 37, 38, 39, 40, 41, 42, 43, 44, 45, 46, 47, 48, 49, 50, 51, 52, 53, 54, 55, 56, 57, 58, 59, 60, 61, 62, 63, 64, 65, 66, 67, 68, 69, 70, 71, 72, 73, 74, 75, 76, 77, 78, 79, 80, 81, 82, 83, 84, 85, 86, 87, 88, 89, 90, 91, 92, 93, 94, 95, 96, 97, 98, 99, 100, 101, 102, 103, 104, 105, 106, 107, 108, 109, 110, 111, 112, 113, 114, 115, 116, 117, 118, 119, 120] [(8, .int .i64 (p : Int))] _ e1 ∧ H1 = [ansC b7 kind (.slice A xs.length c) 0 0 false 0, ansC b6 ⟨#[]⟩ (.slice none 0 0) 0 0 false 0, tagsC (.slice A xs.length c) xs, nilC] ∧ f ≤ p ∧ p ≤ to ∧ xs.length ≤ 64 ∧ partsF l f to p kind xs = partsF l f to f ⟨#[]⟩ []) (μ := fun p => to - p) f ⟨⟨#[]⟩, none, 0, [], Has.mk Off.refl (allLook_cons (by repeat (first | exact Look.here | apply Look.there (hne := rfl) | exact Look.const | apply Look.mix rfl | exact Look.arg0 | apply Look.args | exact Look.func)) allLook_nil), rfl, by omega, by omega, by simp, rfl⟩ ?_
  rintro p _ _ ⟨kind, A, c, xs, ⟨u, rfl⟩, rfl, hfp, hpt, hx, hq⟩; dsimp only [setL]
  refine JC.seq ?_
  refine JC.rs ?_
  refine Seq.p rfl Ev.move ?_
  refine Seq.p rfl Ev.move ?_
  refine Seq.p rfl Ev.lt ?_
  refine Seq.nil ?_
  first | refine JC.c (ht := fun c18 => ?_) (hf := fun c18 => ?_) | refine JC.cb (ht := fun c18 => ?_) (hf := fun c18 => ?_)
  · -- then_t18
    have hp : p < to := by omega
    have hin := first_in hp ht h1
    have hlen : (l.drop p).length = l.length - p := List.length_drop ..
    refine JC.skip ?_
    refine JC.blk ?_
    refine JC.rs ?_
    refine Seq.p rfl Ev.move ?_
    refine Seq.p rfl Ev.assign ?_
    refine Seq.nil ?_
    refine JC.seq ?_
    refine JC.blk ?_
    refine JC.loop (α := Nat) (I := fun n e1 H1 => Has [9, 20, 21, 22, 23, 24, 25, 26] [(9, .int .i64 ((p + n : Nat) : Int))] _ e1 ∧ H1 = _ ∧ n ≤ firstF 1 (l.drop p)) (μ := fun n => firstF 1 (l.drop p) - n) 0 ⟨Has.mk Off.refl (allLook_cons (by repeat (first | exact Look.here | apply Look.there (hne := rfl) | exact Look.const | apply Look.mix rfl | exact Look.arg0 | apply Look.args | exact Look.func)) allLook_nil), rfl, by omega⟩ ?_
    rintro n _ _ ⟨⟨u2, rfl⟩, rfl, hn⟩; dsimp only [setL]
    refine JC.seq ?_
    refine JC.rs ?_
    refine Seq.p rfl Ev.move ?_
    refine Seq.p rfl Ev.move ?_
    refine Seq.p rfl (Ev.iaN sl.sl_uint8 (hr := hr.r)) ?_
    refine Seq.p rfl (Ev.ldE1 sc.uint8 (hr := hr.r)) ?_
    refine Seq.p rfl Ev.ne ?_
    refine Seq.nil ?_
    first | refine JC.c (ht := fun c24 => ?_) (hf := fun c24 => ?_) | refine JC.cb (ht := fun c24 => ?_) (hf := fun c24 => ?_)
    · -- then_t24
      refine JC.skip ?_
      refine JC.blk ?_
      refine JC.reg ?_
      refine Seq.p rfl Ev.move ?_
      refine Seq.p rfl (by first | exact Ev.inc | exact Ev.add) ?_
      refine Seq.p rfl Ev.assign ?_
      refine Seq.nil ?_
      have hn2 : n ≠ firstF 1 (l.drop p) := fun h => c24 (by rw [h, ← get_drop (by omega)]; exact firstF_get (by omega))
      exact ⟨n + 1, _, Part.refl _, ⟨Has.mk (by repeat (first | refine Off.upd ?_ rfl | exact Off.mix | refine Off.mix2 ?_ rfl | exact Off.refl)) (allLook_cons (by repeat (first | exact Look.here | apply Look.there (hne := rfl) | exact Look.const | apply Look.mix rfl | exact Look.arg0 | apply Look.args | exact Look.func)) allLook_nil), rfl, by omega⟩, by omega⟩
    · -- else_t24
      obtain rfl : n = firstF 1 (l.drop p) := by
        rcases Nat.lt_or_ge n (firstF 1 (l.drop p)) with h | h
        · exact absurd (by rw [← get_drop (by omega)] at c24; exact Classical.not_not.1 c24) (firstF_lt h)
        · omega
      have hFl := fieldAt_len (l := l) (p := p)
      have hkl := firstF_le 61 (fieldAt l p)
      refine JC.exit ?_ -- 2
      refine JC.rs ?_
      refine Seq.p rfl Ev.move ?_
      refine Seq.p rfl Ev.assign ?_
      refine Seq.nil ?_
      refine JC.seq ?_
      refine JC.blk ?_
      refine JC.loop (α := Nat) (I := fun k e1 H1 => Has [10, 28, 29, 30, 31, 32, 33, 34, 35, 36, 37, 38, 39] [(10, .int .i64 ((p + k : Nat) : Int))] _ e1 ∧ H1 = _ ∧ k ≤ firstF 61 (fieldAt l p)) (μ := fun k => firstF 61 (fieldAt l p) - k) 0 ⟨Has.mk Off.refl (allLook_cons (by repeat (first | exact Look.here | apply Look.there (hne := rfl) | exact Look.const | apply Look.mix rfl | exact Look.arg0 | apply Look.args | exact Look.func)) allLook_nil), rfl, by omega⟩ ?_
      rintro k _ _ ⟨⟨u3, rfl⟩, rfl, hk⟩; dsimp only [setL]
      have hget : k < firstF 1 (l.drop p) → (fieldAt l p)[k]! = l[p + k]! := fun h => by unfold fieldAt; rw [get_take h (by omega), get_drop (by omega)]
      refine JC.seq ?_
      refine JC.rs ?_
      refine Seq.p rfl Ev.move ?_
      refine Seq.p rfl Ev.move ?_
      refine Seq.p rfl Ev.lt ?_
      refine Seq.p rfl Ev.move ?_
      refine Seq.andG (D := [31, 32, 33, 34, 35, 36, 37]) (d := 31) (t := 37) (k := 6) (hn := fun h31 => ?_) (hx := ?_)
      · repeat (first | refine Seq.gn rfl rfl rfl rfl ?_ | refine Seq.gu rfl rfl rfl ?_)
        refine Seq.p rfl Ev.pickF ?_
        exact Seq.nil ⟨rfl, (by repeat (first | with_reducible exact Off.refl | refine Off.upd ?_ rfl | exact Off.mix | refine Off.mix2 ?_ rfl)), Look.here⟩
      apply Exists.intro
      refine ⟨fun h31 => ?_, fun u37 => ?_⟩
      · try simp only [decide_eq_true_eq, decide_eq_false_iff_not, Bool.and_eq_true, Bool.or_eq_true, Bool.not_eq_true', Bool.not_eq_false', Bool.or_eq_false_iff, Bool.and_eq_false_imp] at h31
        refine Seq.gy rfl rfl rfl ?_
        refine Seq.p rfl Ev.move ?_
        refine Seq.gy rfl rfl rfl ?_
        refine Seq.p rfl Ev.move ?_
        refine Seq.gy rfl rfl rfl ?_
        refine Seq.p rfl (Ev.iaN sl.sl_uint8 (hr := hr.r)) ?_
        refine Seq.gy rfl rfl rfl ?_
        refine Seq.p rfl (Ev.ldE1 sc.uint8 (hr := hr.r)) ?_
        refine Seq.gy rfl rfl rfl ?_
        refine Seq.p rfl Ev.ne ?_
        refine Seq.p rfl Ev.pickT ?_
        exact Seq.nil ⟨rfl, (by repeat (first | with_reducible exact Off.refl | refine Off.upd ?_ rfl | exact Off.mix | refine Off.mix2 ?_ rfl)), Look.here⟩
      refine Seq.nil ?_
      first | refine JC.c (ht := fun c37 => ?_) (hf := fun c37 => ?_) | refine JC.cb (ht := fun c37 => ?_) (hf := fun c37 => ?_)
      · -- then_t37
        refine JC.skip ?_
        refine JC.blk ?_
        refine JC.reg ?_
        refine Seq.p rfl Ev.move ?_
        refine Seq.p rfl (by first | exact Ev.inc | exact Ev.add) ?_
        refine Seq.p rfl Ev.assign ?_
        refine Seq.nil ?_
        simp only [Bool.and_eq_true, decide_eq_true_eq] at c37
        have hk2 : k ≠ firstF 61 (fieldAt l p) := fun h => c37.2 (by rw [← hget (by omega), h]; exact firstF_get (by omega))
        exact ⟨k + 1, _, Part.refl _, ⟨Has.mk (by repeat (first | refine Off.upd ?_ rfl | exact Off.mix | refine Off.mix2 ?_ rfl | exact Off.refl)) (allLook_cons (by repeat (first | exact Look.here | apply Look.there (hne := rfl) | exact Look.const | apply Look.mix rfl | exact Look.arg0 | apply Look.args | exact Look.func)) allLook_nil), rfl, by omega⟩, by omega⟩
      · -- else_t37
        have hk3 : firstF 61 (fieldAt l p) = k := by
          rcases Nat.lt_or_ge k (firstF 61 (fieldAt l p)) with h | h
          · simp only [Bool.and_eq_false_iff, decide_eq_false_iff_not] at c37
            rcases c37 with h2 | h2
            · omega
            · exact absurd (by rw [hget (by omega)]; exact Classical.not_not.1 h2) (firstF_lt h)
          · omega
        have hsub : RSl byteEnc 1 w [] (subSl v p (p + k) 1) ((fieldAt l p).take k) := by
          have h2 := hr.sub (lo := p) (hi := p + k) (by omega) (by omega)
          rw [show p + k - p = k by omega] at h2
          unfold fieldAt
          rwa [List.take_take, Nat.min_eq_left (by omega)]
        refine JC.exit ?_ -- 4
        refine JC.rs ?_
        refine Seq.p rfl Ev.move ?_
        refine Seq.p rfl Ev.move ?_
        refine Seq.p rfl Ev.move ?_
        refine Seq.p rfl (Ev.cut sl.sl_uint8 (hr := hr.r) (l := p) (h := p + k) (hlo := ⟨_, (by repeat (first | exact Look.here | apply Look.there (hne := rfl) | exact Look.const | apply Look.mix rfl | exact Look.arg0 | apply Look.args | exact Look.func))⟩) (hhi := ⟨_, (by repeat (first | exact Look.here | apply Look.there (hne := rfl) | exact Look.const | apply Look.mix rfl | exact Look.arg0 | apply Look.args | exact Look.func))⟩)) ?_
        refine Seq.p rfl (Ev.strOf (l := (fieldAt l p).take k) sl.sl_uint8 it.uint8 st.string (hr := hsub.r)) ?_
        obtain ⟨q, bk, hq1, hq2⟩ := natV_form (natF (strOf ((fieldAt l p).take k)))
        refine Seq.callP rfl (fun w hw => hq1 ▸ refNatural) ?_
        refine Seq.p rfl Ev.move ?_
        refine Seq.p rfl Ev.extract ?_
        refine Seq.p rfl Ev.extract ?_
        refine Seq.p rfl Ev.assign ?_
        refine Seq.p rfl Ev.assign ?_
        refine Seq.nil ?_
        refine JC.rs ?_
        refine Seq.p rfl Ev.move ?_
        refine Seq.p rfl Ev.move ?_
        refine Seq.p rfl (Ev.addN (m := p + k) (c := 1)) ?_
        refine Seq.p rfl Ev.move ?_
        refine Seq.p rfl (Ev.minN (ts := [3, 3]) (a := p + k + 1) (b := p + firstF 1 (l.drop p))) ?_
        refine Seq.p rfl Ev.move ?_
        obtain ⟨m, hm2⟩ : ∃ m : Nat, m = min (p + k + 1) (p + firstF 1 (l.drop p)) := ⟨_, rfl⟩
        rw [← hm2]
        have hsub2 : RSl byteEnc 1 w [] (subSl v m (p + firstF 1 (l.drop p)) 1) ((fieldAt l p).drop (k + 1)) := by
          have h2 := hr.sub (lo := m) (hi := p + firstF 1 (l.drop p)) (by omega) (by omega)
          have e : (fieldAt l p).drop (k + 1) = (l.drop m).take (p + firstF 1 (l.drop p) - m) := by
            unfold fieldAt
            rw [List.drop_take, List.drop_drop]
            rcases Nat.lt_or_ge k (firstF 1 (l.drop p)) with h | h
            · rw [show m = p + (k + 1) by omega]
              congr 1
              omega
            · rw [show firstF 1 (l.drop p) - (k + 1) = 0 by omega, show p + firstF 1 (l.drop p) - m = 0 by omega]
              rfl
          rwa [e]
        refine Seq.p rfl (Ev.cut sl.sl_uint8 (hr := hr.r) (l := m) (h := p + firstF 1 (l.drop p)) (hlo := ⟨_, (by repeat (first | exact Look.here | apply Look.there (hne := rfl) | exact Look.const | apply Look.mix rfl | exact Look.arg0 | apply Look.args | exact Look.func))⟩) (hhi := ⟨_, (by repeat (first | exact Look.here | apply Look.there (hne := rfl) | exact Look.const | apply Look.mix rfl | exact Look.arg0 | apply Look.args | exact Look.func))⟩)) ?_
        refine Seq.p rfl (Ev.strOf (l := (fieldAt l p).drop (k + 1)) sl.sl_uint8 it.uint8 st.string (hr := hsub2.r)) ?_
        refine Seq.p rfl Ev.assign ?_
        refine Seq.nil ?_
        refine JC.seq ?_
        refine JC.rs ?_
        refine Seq.p rfl Ev.move ?_
        refine Seq.p rfl Ev.move ?_
        refine Seq.p rfl Ev.eq ?_
        refine Seq.p rfl Ev.move ?_
        refine Seq.orG (D := [60, 61, 62, 63]) (d := 60) (t := 63) (k := 3) (hn := fun h60 => ?_) (hx := ?_)
        · repeat (first | refine Seq.gn rfl rfl rfl rfl ?_ | refine Seq.gu rfl rfl rfl ?_)
          refine Seq.p rfl Ev.pickT ?_
          exact Seq.nil ⟨rfl, (by repeat (first | with_reducible exact Off.refl | refine Off.upd ?_ rfl | exact Off.mix | refine Off.mix2 ?_ rfl)), Look.here⟩
        apply Exists.intro
        refine ⟨fun h60 => ?_, fun u63 => ?_⟩
        · try simp only [decide_eq_true_eq, decide_eq_false_iff_not, Bool.and_eq_true, Bool.or_eq_true, Bool.not_eq_true', Bool.not_eq_false', Bool.or_eq_false_iff, Bool.and_eq_false_imp] at h60
          refine Seq.gy rfl rfl rfl ?_
          refine Seq.p rfl Ev.move ?_
          refine Seq.gy rfl rfl rfl ?_
          refine Seq.p rfl Ev.not ?_
          refine Seq.p rfl Ev.pickF ?_
          exact Seq.nil ⟨rfl, (by repeat (first | with_reducible exact Off.refl | refine Off.upd ?_ rfl | exact Off.mix | refine Off.mix2 ?_ rfl)), Look.here⟩
        refine Seq.p rfl Ev.move ?_
        refine Seq.orG (D := [64, 65, 66, 67, 68, 69]) (d := 64) (t := 69) (k := 5) (hn := fun h64 => ?_) (hx := ?_)
        · repeat (first | refine Seq.gn rfl rfl rfl rfl ?_ | refine Seq.gu rfl rfl rfl ?_)
          refine Seq.p rfl Ev.pickT ?_
          exact Seq.nil ⟨rfl, (by repeat (first | with_reducible exact Off.refl | refine Off.upd ?_ rfl | exact Off.mix | refine Off.mix2 ?_ rfl)), Look.here⟩
        apply Exists.intro
        refine ⟨fun h64 => ?_, fun u69 => ?_⟩
        · try simp only [decide_eq_true_eq, decide_eq_false_iff_not, Bool.and_eq_true, Bool.or_eq_true, Bool.not_eq_true', Bool.not_eq_false', Bool.or_eq_false_iff, Bool.and_eq_false_imp] at h64
          refine Seq.gy rfl rfl rfl ?_
          refine Seq.p rfl Ev.move ?_
          refine Seq.gy rfl rfl rfl ?_
          refine Seq.p rfl Ev.move ?_
          refine Seq.gy rfl rfl rfl ?_
          refine Seq.p rfl Ev.sub ?_
          refine Seq.gy rfl rfl rfl ?_
          refine Seq.p rfl Ev.gt ?_
          refine Seq.p rfl Ev.pickF ?_
          exact Seq.nil ⟨rfl, (by repeat (first | with_reducible exact Off.refl | refine Off.upd ?_ rfl | exact Off.mix | refine Off.mix2 ?_ rfl)), Look.here⟩
        refine Seq.nil ?_
        first | refine JC.c (ht := fun c69 => ?_) (hf := fun c69 => ?_) | refine JC.cb (ht := fun c69 => ?_) (hf := fun c69 => ?_)
        · -- then_t69
          simp only [Bool.or_eq_true, Bool.not_eq_true', decide_eq_true_eq] at c69
          have hN := ref_none hk3 hq2 (by rcases c69 with (h | h) | h; exact .inl (by omega); exact .inr (.inl h); exact .inr (.inr (by omega)))
          refine JC.rs ?_
          refine Seq.p rfl Ev.move ?_
          refine Seq.callP rfl (fun w hw => refBad) ?_
          refine Seq.storeN [_, _, _, _, _, _] sz.bourseref03_Answer (k := ?_)
          refine Seq.nil ?_
          refine JC.ret ?_
          -- return 0
          show retQ _ _ _ _ _ _ _ _
          refine retB1 ag.bourseref03_Answer (H' := [nilC]) (hp := (by repeat (first | exact Part.refl _ | exact Part.nil _ | apply Part.here | apply Part.skip))) (hpost := ?_)
          rw [← hq, partsF_bad hp (takeF_none hN) (by decide)]
          exact ⟨none, 0, rfl, rfl⟩
        · -- else_t69
          simp only [Bool.or_eq_false_iff, Bool.not_eq_false', decide_eq_false_iff_not] at c69
          obtain ⟨⟨a1, a2⟩, a3⟩ := c69
          obtain ⟨hN, hq4⟩ := ref_some hk3 hq2 (by omega) a2 (by omega)
          have hv : fieldV (fieldAt l p) = strOf ((fieldAt l p).drop (k + 1)) := by unfold fieldV; rw [hk3]
          have hvz : (strOf ((fieldAt l p).drop (k + 1))).size ≤ 281474976710656 := by rw [strOf_size, List.length_drop]; omega
          refine JC.skip ?_
          refine JC.seq ?_
          refine JC.rs ?_
          refine Seq.p rfl Ev.move ?_
          refine Seq.p rfl Ev.move ?_
          refine Seq.p rfl Ev.eq ?_
          refine Seq.nil ?_
          first | refine JC.c (ht := fun c74 => ?_) (hf := fun c74 => ?_) | refine JC.cb (ht := fun c74 => ?_) (hf := fun c74 => ?_)
          · -- then_t74
            have hpf : p = f := by omega
            have ht1 := takeF_first (kind := kind) (xs := xs) hN
            rw [← decide_eq_true hpf, hv] at ht1
            refine JC.seq ?_
            refine JC.rs ?_
            refine Seq.p rfl Ev.move ?_
            refine Seq.p rfl Ev.ne ?_
            refine Seq.p rfl Ev.move ?_
            refine Seq.orG (D := [77, 78, 79, 80, 81]) (d := 77) (t := 81) (k := 4) (hn := fun h77 => ?_) (hx := ?_)
            · repeat (first | refine Seq.gn rfl rfl rfl rfl ?_ | refine Seq.gu rfl rfl rfl ?_)
              refine Seq.p rfl Ev.pickT ?_
              exact Seq.nil ⟨rfl, (by repeat (first | with_reducible exact Off.refl | refine Off.upd ?_ rfl | exact Off.mix | refine Off.mix2 ?_ rfl)), Look.here⟩
            apply Exists.intro
            refine ⟨fun h77 => ?_, fun u81 => ?_⟩
            · try simp only [decide_eq_true_eq, decide_eq_false_iff_not, Bool.and_eq_true, Bool.or_eq_true, Bool.not_eq_true', Bool.not_eq_false', Bool.or_eq_false_iff, Bool.and_eq_false_imp] at h77
              refine Seq.gy rfl rfl rfl ?_
              refine Seq.p rfl Ev.move ?_
              refine Seq.gy rfl rfl rfl ?_
              refine Seq.callP rfl (fun w hw => refKind hvz) ?_
              refine Seq.gy rfl rfl rfl ?_
              refine Seq.p rfl Ev.not ?_
              refine Seq.p rfl Ev.pickF ?_
              exact Seq.nil ⟨rfl, (by repeat (first | with_reducible exact Off.refl | refine Off.upd ?_ rfl | exact Off.mix | refine Off.mix2 ?_ rfl)), Look.here⟩
            refine Seq.nil ?_
            first | refine JC.c (ht := fun c81 => ?_) (hf := fun c81 => ?_) | refine JC.cb (ht := fun c81 => ?_) (hf := fun c81 => ?_)
            · -- then_t81
              refine JC.rs ?_
              refine Seq.p rfl Ev.move ?_
              refine Seq.callP rfl (fun w hw => refBad) ?_
              refine Seq.storeN [_, _, _, _, _, _] sz.bourseref03_Answer (k := ?_)
              refine Seq.nil ?_
              refine JC.ret ?_
              -- return 1
              show retQ _ _ _ _ _ _ _ _
              refine retB1 ag.bourseref03_Answer (H' := [nilC]) (hp := (by repeat (first | exact Part.refl _ | exact Part.nil _ | apply Part.here | apply Part.skip))) (hpost := ?_)
              rw [← hq, partsF_bad hp (ht1.trans (if_pos (by simp only [Bool.or_eq_true, Bool.not_eq_true', decide_eq_true_eq] at c81; rcases c81 with h | h; exact .inl (by omega); exact .inr h))) (by decide)]
              exact ⟨none, 0, rfl, rfl⟩
            · -- else_t81
              simp only [Bool.or_eq_false_iff, Bool.not_eq_false', decide_eq_false_iff_not] at c81
              rw [partsF_step hp (ht1.trans (if_neg (by rintro (h | h); exact c81.1 (by omega); rw [c81.2] at h; cases h)))] at hq
              refine JC.skip ?_
              refine JC.reg ?_
              refine Seq.p rfl Ev.move ?_
              refine Seq.p rfl (Ev.faB fd.bourseref03_Answer_0) ?_
              refine Seq.storeN [_, _, _, _, _, _] sz.string (k := ?_)
              refine Seq.nil ?_
              refine JC.reg ?_
              refine Seq.p rfl Ev.move ?_
              refine Seq.p rfl (by first | exact Ev.inc | exact Ev.add) ?_
              refine Seq.p rfl Ev.assign ?_
              refine Seq.nil ?_
              first | exact ⟨p + firstF 1 (l.drop p) + 1, _, Part.refl _, ⟨strOf ((fieldAt l p).drop (k + 1)), A, c, xs, Has.mk (by repeat (first | refine Off.upd ?_ rfl | exact Off.mix | refine Off.mix2 ?_ rfl | exact Off.refl)) (allLook_cons (by repeat (first | exact Look.here | apply Look.there (hne := rfl) | exact Look.const | apply Look.mix rfl | exact Look.arg0 | apply Look.args | exact Look.func)) allLook_nil), rfl, by omega, by omega, hx, hq⟩, by omega⟩ | exact ⟨p + firstF 1 (l.drop p) + 1, _, Part.skip (Part.refl _), ⟨kind, A117, c117, xs ++ [⟨q, strOf ((fieldAt l p).drop (k + 1))⟩], Has.mk (by repeat (first | refine Off.upd ?_ rfl | exact Off.mix | refine Off.mix2 ?_ rfl | exact Off.refl)) (allLook_cons (by repeat (first | exact Look.here | apply Look.there (hne := rfl) | exact Look.const | apply Look.mix rfl | exact Look.arg0 | apply Look.args | exact Look.func)) allLook_nil), by simp [tagsC, Tg.enc, List.flatMap_append], by omega, by omega, by simp; omega, hq⟩, by omega⟩
          · -- else_t74
            have hpf : ¬ p = f := by omega
            have ht1 := takeF_next (kind := kind) (xs := xs) hN
            rw [← decide_eq_false hpf, hv] at ht1
            refine JC.seq ?_
            refine JC.rs ?_
            refine Seq.p rfl (Ev.faB fd.bourseref03_Answer_1) ?_
            refine Seq.p rfl (Ev.ldB sc.sl_api_Tag) ?_
            refine Seq.p rfl (Ev.lenSl sl.sl_api_Tag (hr := RAt.own (enc := Tg.enc) (xs := xs))) ?_
            refine Seq.p rfl Ev.ge ?_
            refine Seq.nil ?_
            first | refine JC.c (ht := fun c89 => ?_) (hf := fun c89 => ?_) | refine JC.cb (ht := fun c89 => ?_) (hf := fun c89 => ?_)
            · -- then_t89
              refine JC.rs ?_
              refine Seq.p rfl Ev.move ?_
              refine Seq.callP rfl (fun w hw => refBad) ?_
              refine Seq.storeN [_, _, _, _, _, _] sz.bourseref03_Answer (k := ?_)
              refine Seq.nil ?_
              refine JC.ret ?_
              -- return 2
              show retQ _ _ _ _ _ _ _ _
              refine retB1 ag.bourseref03_Answer (H' := [nilC]) (hp := (by repeat (first | exact Part.refl _ | exact Part.nil _ | apply Part.here | apply Part.skip))) (hpost := ?_)
              rw [← hq, partsF_bad hp (ht1.trans (if_pos (by omega))) (by decide)]
              exact ⟨none, 0, rfl, rfl⟩
            · -- else_t89
              rw [if_neg (by omega)] at ht1
              refine JC.skip ?_
              refine JC.seq ?_
              refine JC.rs ?_
              refine Seq.p rfl Ev.move ?_
              refine Seq.p rfl (Ev.conv64 it.uint64 it.int) ?_
              refine Seq.callP rfl (fun w hw => refIsTag) ?_
              refine Seq.p rfl Ev.not ?_
              refine Seq.p rfl Ev.move ?_
              refine Seq.orG (D := [96, 97, 98, 99, 100, 101, 102]) (d := 96) (t := 102) (k := 6) (hn := fun h96 => ?_) (hx := ?_)
              · repeat (first | refine Seq.gn rfl rfl rfl rfl ?_ | refine Seq.gu rfl rfl rfl ?_)
                refine Seq.p rfl Ev.pickT ?_
                exact Seq.nil ⟨rfl, (by repeat (first | with_reducible exact Off.refl | refine Off.upd ?_ rfl | exact Off.mix | refine Off.mix2 ?_ rfl)), Look.here⟩
              apply Exists.intro
              refine ⟨fun h96 => ?_, fun u102 => ?_⟩
              · try simp only [decide_eq_true_eq, decide_eq_false_iff_not, Bool.and_eq_true, Bool.or_eq_true, Bool.not_eq_true', Bool.not_eq_false', Bool.or_eq_false_iff, Bool.and_eq_false_imp] at h96
                refine Seq.gy rfl rfl rfl ?_
                refine Seq.p rfl (Ev.faB fd.bourseref03_Answer_1) ?_
                refine Seq.gy rfl rfl rfl ?_
                refine Seq.p rfl (Ev.ldB sc.sl_api_Tag) ?_
                refine Seq.gy rfl rfl rfl ?_
                refine Seq.p rfl Ev.move ?_
                refine Seq.gy rfl rfl rfl ?_
                refine Seq.p rfl (Ev.conv64 it.uint64 it.int) ?_
                refine Seq.gy rfl rfl rfl ?_
                refine Seq.callP rfl (fun w hw => refThere (RAt.up (RAt.own (enc := Tg.enc) (xs := xs)) hw)) ?_
                refine Seq.p rfl Ev.pickF ?_
                exact Seq.nil ⟨rfl, (by repeat (first | with_reducible exact Off.refl | refine Off.upd ?_ rfl | exact Off.mix | refine Off.mix2 ?_ rfl)), Look.here⟩
              refine Seq.nil ?_
              first | refine JC.c (ht := fun c102 => ?_) (hf := fun c102 => ?_) | refine JC.cb (ht := fun c102 => ?_) (hf := fun c102 => ?_)
              · -- then_t102
                refine JC.rs ?_
                refine Seq.p rfl Ev.move ?_
                refine Seq.callP rfl (fun w hw => refBad) ?_
                refine Seq.storeN [_, _, _, _, _, _] sz.bourseref03_Answer (k := ?_)
                refine Seq.nil ?_
                refine JC.ret ?_
                -- return 3
                show retQ _ _ _ _ _ _ _ _
                refine retB1 ag.bourseref03_Answer (H' := [nilC]) (hp := (by repeat (first | exact Part.refl _ | exact Part.nil _ | apply Part.here | apply Part.skip))) (hpost := ?_)
                have e3 : refusedF xs ⟨q, strOf ((fieldAt l p).drop (k + 1))⟩ = 30 := if_pos c102
                rw [← hq, partsF_bad hp (ht1.trans (if_pos (by rw [e3]; decide))) (by rw [e3]; decide), e3]
                exact ⟨none, 0, rfl, rfl⟩
              · -- else_t102
                refine JC.skip ?_
                refine JC.seq ?_
                refine JC.rs ?_
                refine Seq.p rfl Ev.move ?_
                refine Seq.callP rfl (fun w hw => refIsValue hvz) ?_
                refine Seq.p rfl Ev.not ?_
                refine Seq.nil ?_
                first | refine JC.c (ht := fun c107 => ?_) (hf := fun c107 => ?_) | refine JC.cb (ht := fun c107 => ?_) (hf := fun c107 => ?_)
                · -- then_t107
                  refine JC.rs ?_
                  refine Seq.p rfl Ev.move ?_
                  refine Seq.callP rfl (fun w hw => refBad) ?_
                  refine Seq.storeN [_, _, _, _, _, _] sz.bourseref03_Answer (k := ?_)
                  refine Seq.nil ?_
                  refine JC.ret ?_
                  -- return 4
                  show retQ _ _ _ _ _ _ _ _
                  refine retB1 ag.bourseref03_Answer (H' := [nilC]) (hp := (by repeat (first | exact Part.refl _ | exact Part.nil _ | apply Part.here | apply Part.skip))) (hpost := ?_)
                  have e3 : refusedF xs ⟨q, strOf ((fieldAt l p).drop (k + 1))⟩ = 31 := by unfold refusedF; rw [if_neg (by simp only at c102 ⊢; rw [c102]; decide), if_pos c107]
                  rw [← hq, partsF_bad hp (ht1.trans (if_pos (by rw [e3]; decide))) (by rw [e3]; decide), e3]
                  exact ⟨none, 0, rfl, rfl⟩
                · -- else_t107
                  have e3 : refusedF xs ⟨q, strOf ((fieldAt l p).drop (k + 1))⟩ = 0 := by unfold refusedF; rw [if_neg (by simp only at c102 ⊢; rw [c102]; decide), if_neg (by rw [c107]; decide)]
                  rw [e3, if_neg (fun h => h rfl)] at ht1
                  rw [partsF_step hp ht1] at hq
                  refine JC.skip ?_
                  refine JC.reg ?_
                  refine Seq.p rfl (Ev.faB fd.bourseref03_Answer_1) ?_
                  refine Seq.p rfl (Ev.ldB sc.sl_api_Tag) ?_
                  refine Seq.p rfl Ev.move ?_
                  refine Seq.p rfl (Ev.conv64 it.uint64 it.int) ?_
                  refine Seq.p rfl Ev.move ?_
                  refine Seq.p rfl (Ev.buildN [_, _] pl.api_Tag z.api_Tag) ?_
                  refine Seq.buildSlN [_, _] (hsl := sl.sl_api_Tag) (hz := z.api_Tag) (k := ?_); intro b116
                  refine Seq.append (hsl := sl.sl_api_Tag) (he := el.api_Tag) (hsrc := (fun w' hw => Src.box (hl := by rfl) (hc := fun q u hu => hu) sl.sl_api_Tag At.z hw)) (k := ?_); intro A117 c117
                  refine Seq.p rfl (Ev.faB fd.bourseref03_Answer_1) ?_
                  refine Seq.storeN [_, _, _, _, _, _] sz.sl_api_Tag (k := ?_)
                  refine Seq.nil ?_
                  refine JC.reg ?_
                  refine Seq.p rfl Ev.move ?_
                  refine Seq.p rfl (by first | exact Ev.inc | exact Ev.add) ?_
                  refine Seq.p rfl Ev.assign ?_
                  refine Seq.nil ?_
                  first | exact ⟨p + firstF 1 (l.drop p) + 1, _, Part.refl _, ⟨strOf ((fieldAt l p).drop (k + 1)), A, c, xs, Has.mk (by repeat (first | refine Off.upd ?_ rfl | exact Off.mix | refine Off.mix2 ?_ rfl | exact Off.refl)) (allLook_cons (by repeat (first | exact Look.here | apply Look.there (hne := rfl) | exact Look.const | apply Look.mix rfl | exact Look.arg0 | apply Look.args | exact Look.func)) allLook_nil), rfl, by omega, by omega, hx, hq⟩, by omega⟩ | exact ⟨p + firstF 1 (l.drop p) + 1, _, Part.skip (Part.refl _), ⟨kind, A117, c117, xs ++ [⟨q, strOf ((fieldAt l p).drop (k + 1))⟩], Has.mk (by repeat (first | refine Off.upd ?_ rfl | exact Off.mix | refine Off.mix2 ?_ rfl | exact Off.refl)) (allLook_cons (by repeat (first | exact Look.here | apply Look.there (hne := rfl) | exact Look.const | apply Look.mix rfl | exact Look.arg0 | apply Look.args | exact Look.func)) allLook_nil), by simp [tagsC, Tg.enc, List.flatMap_append], by omega, by omega, by simp; omega, hq⟩, by omega⟩
  · -- else_t18
    rw [partsF_end (by omega)] at hq
    refine JC.exit ?_ -- 0
    refine JC.rs ?_
    refine Seq.p rfl (Ev.ldBA ag.bourseref03_Answer) ?_
    refine Seq.storeN [_, _, _, _, _, _] sz.bourseref03_Answer (k := ?_)
    refine Seq.nil ?_
    refine JC.ret ?_
    -- return 5
    show retQ _ _ _ _ _ _ _ _
    refine retB1 ag.bourseref03_Answer (H' := [tagsC (.slice A xs.length c) xs]) (hp := (by repeat (first | exact Part.refl _ | exact Part.nil _ | apply Part.here | apply Part.skip))) (hpost := ?_)
    rw [← hq]
    exact ⟨A, c, rfl, rfl⟩
end Go.Rx
/- The document's reading of a line. -/
namespace Go.Rx
open Go Go.RowKit Go.Lib Go.Proofs.YtcggppjpnepoiaaDoor
set_option linter.unusedVariables false
set_option linter.unusedSimpArgs false
theorem readF_bad {l : List Int} {a c : Int} (h : headF l = .bad a c) : readF l = badA a c := by unfold readF; rw [h]
theorem readF_long {l : List Int} {f k : Nat} (h : headF l = .ok f k) (h1 : 2048 < f + k + 7) : readF l = badA 10 2 := by unfold readF; rw [h]; exact if_pos h1
theorem readF_short {l : List Int} {f k : Nat} (h : headF l = .ok f k) (h1 : ¬ 2048 < f + k + 7) (h2 : l.length < f + k + 7) : readF l = badA l.length 20 := by
  unfold readF; rw [h]; simp only; rw [if_neg h1, if_pos h2]
theorem readF_body {l : List Int} {f k : Nat} (h : headF l = .ok f k) (h1 : ¬ 2048 < f + k + 7) (h2 : ¬ l.length < f + k + 7)
    (h3 : trailB ((l.drop (f + k)).take 7) = false ∨ k = 0 ∨ l[f + k - 1]! ≠ 1) : readF l = badA (f + k : Nat) 32 := by
  unfold readF; rw [h]; simp only; rw [if_neg h1, if_neg h2, if_pos h3]
theorem readF_trail {l : List Int} {f k : Nat} (h : headF l = .ok f k) (h1 : ¬ 2048 < f + k + 7) (h2 : ¬ l.length < f + k + 7)
    (h3 : ¬ (trailB ((l.drop (f + k)).take 7) = false ∨ k = 0 ∨ l[f + k - 1]! ≠ 1)) (h4 : (l.drop (f + k)).take 7 ≠ lastL (l.take (f + k))) : readF l = badA (f + k : Nat) 33 := by
  unfold readF; rw [h]; simp only; rw [if_neg h1, if_neg h2, if_neg h3, if_pos h4]
theorem readF_parts {l : List Int} {f k : Nat} (h : headF l = .ok f k) (h1 : ¬ 2048 < f + k + 7) (h2 : ¬ l.length < f + k + 7)
    (h3 : ¬ (trailB ((l.drop (f + k)).take 7) = false ∨ k = 0 ∨ l[f + k - 1]! ≠ 1)) (h4 : ¬ (l.drop (f + k)).take 7 ≠ lastL (l.take (f + k))) : readF l = partA (f + k + 7) (partsF l f (f + k) f ⟨#[]⟩ []) := by
  unfold readF; rw [h]; simp only; rw [if_neg h1, if_neg h2, if_neg h3, if_neg h4]
theorem head_from {l : List Int} {f k : Nat} (h : headF l = .ok f k) : 11 ≤ f ∧ f ≤ 16 ∧ k < 10000 := by
  have hg := dgF_le l 5 0
  unfold headF at h
  split at h
  · split at h <;> cases h
  · split at h
    · cases h
    · split at h
      · rename_i q hq
        split at h
        · cases h
        · rename_i hn
          cases h
          refine ⟨by omega, by omega, ?_⟩
          have h3 := natF_lt hq
          rw [strOf_size] at h3
          have h4 : ((l.drop 10).take (dgF l 5 0)).length ≤ 4 := by rw [List.length_take]; omega
          exact Nat.lt_of_lt_of_le h3 (Nat.pow_le_pow_right (by decide) h4)
      · cases h
theorem head_why {l : List Int} {a c : Int} (h : headF l = .bad a c) : c ≠ 0 := by
  unfold headF at h
  split at h
  · split at h <;> (cases h; decide)
  · split at h
    · cases h; decide
    · split at h
      · split at h
        · cases h; decide
        · cases h
      · cases h; decide
theorem headV_form (l : List Int) : ∃ fr lg a c, headV (headF l) = .tuple #[.int .i64 fr, .int .i64 lg, badV a c] ∧ ((c ≠ 0 ∧ readF l = badA a c) ∨ (c = 0 ∧ ∃ f k : Nat, headF l = .ok f k ∧ fr = (f : Int) ∧ lg = (k : Int) ∧ 11 ≤ f ∧ f ≤ 16 ∧ k < 10000)) := by
  cases h : headF l with
  | bad a c => exact ⟨0, 0, a, c, rfl, .inl ⟨head_why h, readF_bad h⟩⟩
  | ok f k => exact ⟨f, k, 0, 0, rfl, .inr ⟨rfl, f, k, rfl, rfl, rfl, head_from h⟩⟩
theorem isBytes_sub {l m : List Int} (h : isBytes l) (hs : ∀ x ∈ m, x ∈ l) : isBytes m := fun x hx => h x (hs x hx)
theorem isBytes_drop {l : List Int} {n : Nat} (h : isBytes l) : isBytes (l.drop n) := fun x hx => h x (List.mem_of_mem_drop hx)
theorem isBytes_take {l : List Int} {n : Nat} (h : isBytes l) : isBytes (l.take n) := fun x hx => h x (List.mem_of_mem_take hx)
theorem isBytes_last (l : List Int) : isBytes (lastL l) := by
  have hs := sumB_range l
  intro x hx
  simp only [lastL, threeL, List.cons_append, List.nil_append, List.mem_cons, List.not_mem_nil, or_false] at hx
  rcases hx with h | h | h | h | h | h | h <;> omega
theorem isBytes_three (l : List Int) : isBytes (threeL (sumB l)) := by
  have hs := sumB_range l
  intro x hx
  simp only [threeL, List.mem_cons, List.not_mem_nil, or_false] at hx
  rcases hx with h | h | h <;> omega
theorem seven {t : List Int} (h : t.length = 7) : ∃ a b c d e f g, t = [a, b, c, d, e, f, g] := by
  match t, h with
  | [a, b, c, d, e, f, g], _ => exact ⟨a, b, c, d, e, f, g, rfl⟩
theorem trail_last {t l : List Int} (h : t.length = 7) (ht : trailB t = true) : t = lastL l ↔ (t.drop 3).take 3 = threeL (sumB l) := by
  obtain ⟨a, b, c, d, e, f, g, rfl⟩ := seven h
  unfold trailB at ht
  simp only [Bool.and_eq_true, decide_eq_true_eq] at ht
  obtain ⟨⟨_, h1⟩, h2⟩ := ht
  simp at h1 h2
  obtain ⟨rfl, rfl, rfl⟩ := h1
  subst h2
  simp [lastL, threeL]
theorem trailB_seven (a b c d e f g : Int) : trailB [a, b, c, d, e, f, g] = ((digit d && (digit e && digit f) && (decide (a = 49) && (decide (b = 48) && decide (c = 61)))) && decide (g = 1)) := by
  unfold trailB
  rw [Bool.eq_iff_iff]
  simp
set_option maxHeartbeats 4000000 in
set_option maxRecDepth 100000 in
theorem refRead {w : World} {v : Value} {l : List Int} (hr : RSl byteEnc 1 w [] v l) (hB : isBytes l) (hl : l.length ≤ 281474976710656) :
    Spec Go.Proofs.Tryd.prog 36 #[v] w [] (fun u H' => ∃ A c, u = ansV (readF l) A c (decide ((readF l).size ≠ 0)) (readF l).size ∧ H' = [tagsC (.slice A (readF l).tags.length c) (readF l).tags]) := by
  obtain ⟨fr, lg, a0, c0, hfv, hfacts⟩ := headV_form l
  refine Spec.enter (fn := Go.Proofs.Tryd.f36) (n := 129) [v] Go.Proofs.Tryd.func36 (by kernel_rfl) rfl Go.Proofs.Tryd.ntmps36 Go.Proofs.Tryd.results36 rfl (Own.nil _) ?_
  refine JC.re (fun w h => h.nilOwn 30 2) ?_
  refine JC.rs ?_
  refine Seq.alloc (cs := [_, _, _, _, _, _]) (hz := z.bourseref03_Answer) (k := ?_); intro b2
  refine Seq.nil ?_
  refine JC.rs ?_
  refine Seq.p rfl Ev.move ?_
  refine Seq.callP rfl (fun w hw => hfv ▸ refHead (hr.up hw) hB) ?_
  refine Seq.p rfl Ev.move ?_
  refine Seq.p rfl Ev.extract ?_
  refine Seq.p rfl Ev.extract ?_
  refine Seq.p rfl Ev.extract ?_
  refine Seq.alloc (cs := [_, _, _, _, _, _]) (hz := z.bourseref03_Answer) (k := ?_); intro b5
  refine Seq.p rfl Ev.assign ?_
  refine Seq.p rfl Ev.assign ?_
  refine Seq.storeN [_, _, _, _, _, _] sz.bourseref03_Answer (k := ?_)
  refine Seq.nil ?_
  refine JC.seq ?_
  refine JC.rs ?_
  refine Seq.p rfl (Ev.faB fd.bourseref03_Answer_3) ?_
  refine Seq.p rfl (Ev.ldB sc.api_Errno) ?_
  refine Seq.p rfl Ev.ne ?_
  refine Seq.nil ?_
  first | refine JC.c (ht := fun c17 => ?_) (hf := fun c17 => ?_) | refine JC.cb (ht := fun c17 => ?_) (hf := fun c17 => ?_)
  · -- then_t17
    refine JC.rs ?_
    refine Seq.p rfl (Ev.ldBA ag.bourseref03_Answer) ?_
    refine Seq.storeN [_, _, _, _, _, _] sz.bourseref03_Answer (k := ?_)
    refine Seq.nil ?_
    refine JC.ret ?_
    -- return 0
    show retQ _ _ _ _ _ _ _ _
    refine retB1 ag.bourseref03_Answer (H' := [nilC]) (hp := (by repeat (first | exact Part.refl _ | exact Part.nil _ | apply Part.here | apply Part.skip))) (hpost := ?_)
    rcases hfacts with ⟨h1, h2⟩ | ⟨h1, _⟩
    · rw [h2]; exact ⟨none, 0, rfl, rfl⟩
    · exact absurd h1 c17
  · -- else_t17
    obtain ⟨rfl, f, k, hh, rfl, rfl, hf1, hf2, hk⟩ : c0 = 0 ∧ ∃ f k : Nat, headF l = .ok f k ∧ fr = (f : Int) ∧ lg = (k : Int) ∧ 11 ≤ f ∧ f ≤ 16 ∧ k < 10000 := by
      rcases hfacts with ⟨h1, _⟩ | h
      · exact absurd h1 c17
      · exact h
    refine JC.skip ?_
    refine JC.seq ?_
    refine JC.rs ?_
    refine Seq.p rfl Ev.move ?_
    refine Seq.p rfl Ev.move ?_
    refine Seq.p rfl (Ev.addN (m := f) (c := k)) ?_
    refine Seq.p rfl (Ev.addN (m := f + k) (c := 7)) ?_
    refine Seq.p rfl Ev.gt ?_
    refine Seq.nil ?_
    first | refine JC.c (ht := fun c23 => ?_) (hf := fun c23 => ?_) | refine JC.cb (ht := fun c23 => ?_) (hf := fun c23 => ?_)
    · -- then_t23
      refine JC.rs ?_
      refine Seq.callP rfl (fun w hw => refBad) ?_
      refine Seq.storeN [_, _, _, _, _, _] sz.bourseref03_Answer (k := ?_)
      refine Seq.nil ?_
      refine JC.ret ?_
      -- return 1
      show retQ _ _ _ _ _ _ _ _
      refine retB1 ag.bourseref03_Answer (H' := [nilC]) (hp := (by repeat (first | exact Part.refl _ | exact Part.nil _ | apply Part.here | apply Part.skip))) (hpost := ?_)
      rw [readF_long hh (by omega)]
      exact ⟨none, 0, rfl, rfl⟩
    · -- else_t23
      refine JC.skip ?_
      refine JC.rs ?_
      refine Seq.p rfl Ev.move ?_
      refine Seq.p rfl Ev.move ?_
      refine Seq.p rfl (Ev.addN (m := f) (c := k)) ?_
      refine Seq.p rfl Ev.assign ?_
      refine Seq.nil ?_
      refine JC.seq ?_
      refine JC.rs ?_
      refine Seq.p rfl Ev.move ?_
      refine Seq.p rfl (Ev.lenSl sl.sl_uint8 (hr := hr.r)) ?_
      refine Seq.p rfl Ev.move ?_
      refine Seq.p rfl (Ev.addN (m := f + k) (c := 7)) ?_
      refine Seq.p rfl Ev.lt ?_
      refine Seq.nil ?_
      first | refine JC.c (ht := fun c32 => ?_) (hf := fun c32 => ?_) | refine JC.cb (ht := fun c32 => ?_) (hf := fun c32 => ?_)
      · -- then_t32
        refine JC.rs ?_
        refine Seq.p rfl Ev.move ?_
        refine Seq.p rfl (Ev.lenSl sl.sl_uint8 (hr := hr.r)) ?_
        refine Seq.callP rfl (fun w hw => refBad) ?_
        refine Seq.storeN [_, _, _, _, _, _] sz.bourseref03_Answer (k := ?_)
        refine Seq.nil ?_
        refine JC.ret ?_
        -- return 2
        show retQ _ _ _ _ _ _ _ _
        refine retB1 ag.bourseref03_Answer (H' := [nilC]) (hp := (by repeat (first | exact Part.refl _ | exact Part.nil _ | apply Part.here | apply Part.skip))) (hpost := ?_)
        rw [readF_short hh (by omega) (by omega)]
        exact ⟨none, 0, rfl, rfl⟩
      · -- else_t32
        have hs1 : ¬ 2048 < f + k + 7 := by omega
        have hs2 : ¬ l.length < f + k + 7 := by omega
        have hT : ((l.drop (f + k)).take 7).length = 7 := by rw [List.length_take, List.length_drop]; omega
        have hBT : isBytes ((l.drop (f + k)).take 7) := isBytes_take (isBytes_drop hB)
        have hsubT : RSl byteEnc 1 w [] (subSl v (f + k) (f + k + 7) 1) ((l.drop (f + k)).take 7) := by
          have h2 := hr.sub (lo := f + k) (hi := f + k + 7) (by omega) (by omega)
          rwa [show f + k + 7 - (f + k) = 7 by omega] at h2
        have hhead : RSl byteEnc 1 w [] (subSl v 0 (f + k) 1) (l.take (f + k)) := by
          have h2 := hr.sub (lo := 0) (hi := f + k) (by omega) (by omega)
          rwa [List.drop_zero] at h2
        have hTs : RSl byteEnc 1 w [] (subSl (subSl v (f + k) (f + k + 7) 1) 0 3 1) (((l.drop (f + k)).take 7).take 3) := by
          have h2 := hsubT.sub (lo := 0) (hi := 3) (by omega) (by omega)
          rwa [List.drop_zero] at h2
        have hTd : RSl byteEnc 1 w [] (subSl (subSl v (f + k) (f + k + 7) 1) 3 6 1) ((((l.drop (f + k)).take 7).drop 3).take 3) := hsubT.sub (lo := 3) (hi := 6) (by omega) (by omega)
        generalize hTg : (l.drop (f + k)).take 7 = T at hT hBT hsubT hTs hTd
        refine JC.skip ?_
        refine JC.rs ?_
        refine Seq.p rfl Ev.move ?_
        refine Seq.p rfl Ev.move ?_
        refine Seq.p rfl Ev.move ?_
        refine Seq.p rfl (Ev.addN (m := f + k) (c := 7)) ?_
        refine Seq.p rfl (Ev.cut sl.sl_uint8 (hr := hr.r) (l := f + k) (h := f + k + 7) (hlo := ⟨_, (by repeat (first | exact Look.here | apply Look.there (hne := rfl) | exact Look.const | apply Look.mix rfl | exact Look.arg0 | apply Look.args | exact Look.func))⟩) (hhi := ⟨_, (by repeat (first | exact Look.here | apply Look.there (hne := rfl) | exact Look.const | apply Look.mix rfl | exact Look.arg0 | apply Look.args | exact Look.func))⟩)) ?_
        refine Seq.p rfl Ev.assign ?_
        refine Seq.nil ?_
        refine JC.rs ?_
        refine Seq.p rfl Ev.move ?_
        refine Seq.p rfl (Ev.iaN sl.sl_uint8 (i := 3) (hr := hsubT.r) (hi := by rw [hT]; decide)) ?_
        refine Seq.p rfl (Ev.ldE1 sc.uint8 (i := 3) (hr := hsubT.r) (hi := by rw [hT]; decide)) ?_
        refine Seq.p rfl Ev.ge ?_
        refine Seq.p rfl Ev.move ?_
        refine Seq.andG (D := [45, 46, 47, 48, 49, 50]) (d := 45) (t := 50) (k := 5) (hn := fun h45 => ?_) (hx := ?_)
        · repeat (first | refine Seq.gn rfl rfl rfl rfl ?_ | refine Seq.gu rfl rfl rfl ?_)
          refine Seq.p rfl Ev.pickF ?_
          exact Seq.nil ⟨rfl, (by repeat (first | with_reducible exact Off.refl | refine Off.upd ?_ rfl | exact Off.mix | refine Off.mix2 ?_ rfl)), Look.here⟩
        apply Exists.intro
        refine ⟨fun h45 => ?_, fun u50 => ?_⟩
        · try simp only [decide_eq_true_eq, decide_eq_false_iff_not, Bool.and_eq_true, Bool.or_eq_true, Bool.not_eq_true', Bool.not_eq_false', Bool.or_eq_false_iff, Bool.and_eq_false_imp] at h45
          refine Seq.gy rfl rfl rfl ?_
          refine Seq.p rfl Ev.move ?_
          refine Seq.gy rfl rfl rfl ?_
          refine Seq.p rfl (Ev.iaN sl.sl_uint8 (i := 3) (hr := hsubT.r) (hi := by rw [hT]; decide)) ?_
          refine Seq.gy rfl rfl rfl ?_
          refine Seq.p rfl (Ev.ldE1 sc.uint8 (i := 3) (hr := hsubT.r) (hi := by rw [hT]; decide)) ?_
          refine Seq.gy rfl rfl rfl ?_
          refine Seq.p rfl Ev.le ?_
          refine Seq.p rfl Ev.pickT ?_
          exact Seq.nil ⟨rfl, (by repeat (first | with_reducible exact Off.refl | refine Off.upd ?_ rfl | exact Off.mix | refine Off.mix2 ?_ rfl)), Look.here⟩
        refine Seq.p rfl Ev.move ?_
        refine Seq.andG (D := [51, 52, 53, 54, 55, 56]) (d := 51) (t := 56) (k := 5) (hn := fun h51 => ?_) (hx := ?_)
        · repeat (first | refine Seq.gn rfl rfl rfl rfl ?_ | refine Seq.gu rfl rfl rfl ?_)
          refine Seq.p rfl Ev.pickF ?_
          exact Seq.nil ⟨rfl, (by repeat (first | with_reducible exact Off.refl | refine Off.upd ?_ rfl | exact Off.mix | refine Off.mix2 ?_ rfl)), Look.here⟩
        apply Exists.intro
        refine ⟨fun h51 => ?_, fun u56 => ?_⟩
        · try simp only [decide_eq_true_eq, decide_eq_false_iff_not, Bool.and_eq_true, Bool.or_eq_true, Bool.not_eq_true', Bool.not_eq_false', Bool.or_eq_false_iff, Bool.and_eq_false_imp] at h51
          refine Seq.gy rfl rfl rfl ?_
          refine Seq.p rfl Ev.move ?_
          refine Seq.gy rfl rfl rfl ?_
          refine Seq.p rfl (Ev.iaN sl.sl_uint8 (i := 4) (hr := hsubT.r) (hi := by rw [hT]; decide)) ?_
          refine Seq.gy rfl rfl rfl ?_
          refine Seq.p rfl (Ev.ldE1 sc.uint8 (i := 4) (hr := hsubT.r) (hi := by rw [hT]; decide)) ?_
          refine Seq.gy rfl rfl rfl ?_
          refine Seq.p rfl Ev.ge ?_
          refine Seq.p rfl Ev.pickT ?_
          exact Seq.nil ⟨rfl, (by repeat (first | with_reducible exact Off.refl | refine Off.upd ?_ rfl | exact Off.mix | refine Off.mix2 ?_ rfl)), Look.here⟩
        refine Seq.p rfl Ev.move ?_
        refine Seq.andG (D := [57, 58, 59, 60, 61, 62]) (d := 57) (t := 62) (k := 5) (hn := fun h57 => ?_) (hx := ?_)
        · repeat (first | refine Seq.gn rfl rfl rfl rfl ?_ | refine Seq.gu rfl rfl rfl ?_)
          refine Seq.p rfl Ev.pickF ?_
          exact Seq.nil ⟨rfl, (by repeat (first | with_reducible exact Off.refl | refine Off.upd ?_ rfl | exact Off.mix | refine Off.mix2 ?_ rfl)), Look.here⟩
        apply Exists.intro
        refine ⟨fun h57 => ?_, fun u62 => ?_⟩
        · try simp only [decide_eq_true_eq, decide_eq_false_iff_not, Bool.and_eq_true, Bool.or_eq_true, Bool.not_eq_true', Bool.not_eq_false', Bool.or_eq_false_iff, Bool.and_eq_false_imp] at h57
          refine Seq.gy rfl rfl rfl ?_
          refine Seq.p rfl Ev.move ?_
          refine Seq.gy rfl rfl rfl ?_
          refine Seq.p rfl (Ev.iaN sl.sl_uint8 (i := 4) (hr := hsubT.r) (hi := by rw [hT]; decide)) ?_
          refine Seq.gy rfl rfl rfl ?_
          refine Seq.p rfl (Ev.ldE1 sc.uint8 (i := 4) (hr := hsubT.r) (hi := by rw [hT]; decide)) ?_
          refine Seq.gy rfl rfl rfl ?_
          refine Seq.p rfl Ev.le ?_
          refine Seq.p rfl Ev.pickT ?_
          exact Seq.nil ⟨rfl, (by repeat (first | with_reducible exact Off.refl | refine Off.upd ?_ rfl | exact Off.mix | refine Off.mix2 ?_ rfl)), Look.here⟩
        refine Seq.p rfl Ev.move ?_
        refine Seq.andG (D := [63, 64, 65, 66, 67, 68]) (d := 63) (t := 68) (k := 5) (hn := fun h63 => ?_) (hx := ?_)
        · repeat (first | refine Seq.gn rfl rfl rfl rfl ?_ | refine Seq.gu rfl rfl rfl ?_)
          refine Seq.p rfl Ev.pickF ?_
          exact Seq.nil ⟨rfl, (by repeat (first | with_reducible exact Off.refl | refine Off.upd ?_ rfl | exact Off.mix | refine Off.mix2 ?_ rfl)), Look.here⟩
        apply Exists.intro
        refine ⟨fun h63 => ?_, fun u68 => ?_⟩
        · try simp only [decide_eq_true_eq, decide_eq_false_iff_not, Bool.and_eq_true, Bool.or_eq_true, Bool.not_eq_true', Bool.not_eq_false', Bool.or_eq_false_iff, Bool.and_eq_false_imp] at h63
          refine Seq.gy rfl rfl rfl ?_
          refine Seq.p rfl Ev.move ?_
          refine Seq.gy rfl rfl rfl ?_
          refine Seq.p rfl (Ev.iaN sl.sl_uint8 (i := 5) (hr := hsubT.r) (hi := by rw [hT]; decide)) ?_
          refine Seq.gy rfl rfl rfl ?_
          refine Seq.p rfl (Ev.ldE1 sc.uint8 (i := 5) (hr := hsubT.r) (hi := by rw [hT]; decide)) ?_
          refine Seq.gy rfl rfl rfl ?_
          refine Seq.p rfl Ev.ge ?_
          refine Seq.p rfl Ev.pickT ?_
          exact Seq.nil ⟨rfl, (by repeat (first | with_reducible exact Off.refl | refine Off.upd ?_ rfl | exact Off.mix | refine Off.mix2 ?_ rfl)), Look.here⟩
        refine Seq.p rfl Ev.move ?_
        refine Seq.andG (D := [69, 70, 71, 72, 73, 74]) (d := 69) (t := 74) (k := 5) (hn := fun h69 => ?_) (hx := ?_)
        · repeat (first | refine Seq.gn rfl rfl rfl rfl ?_ | refine Seq.gu rfl rfl rfl ?_)
          refine Seq.p rfl Ev.pickF ?_
          exact Seq.nil ⟨rfl, (by repeat (first | with_reducible exact Off.refl | refine Off.upd ?_ rfl | exact Off.mix | refine Off.mix2 ?_ rfl)), Look.here⟩
        apply Exists.intro
        refine ⟨fun h69 => ?_, fun u74 => ?_⟩
        · try simp only [decide_eq_true_eq, decide_eq_false_iff_not, Bool.and_eq_true, Bool.or_eq_true, Bool.not_eq_true', Bool.not_eq_false', Bool.or_eq_false_iff, Bool.and_eq_false_imp] at h69
          refine Seq.gy rfl rfl rfl ?_
          refine Seq.p rfl Ev.move ?_
          refine Seq.gy rfl rfl rfl ?_
          refine Seq.p rfl (Ev.iaN sl.sl_uint8 (i := 5) (hr := hsubT.r) (hi := by rw [hT]; decide)) ?_
          refine Seq.gy rfl rfl rfl ?_
          refine Seq.p rfl (Ev.ldE1 sc.uint8 (i := 5) (hr := hsubT.r) (hi := by rw [hT]; decide)) ?_
          refine Seq.gy rfl rfl rfl ?_
          refine Seq.p rfl Ev.le ?_
          refine Seq.p rfl Ev.pickT ?_
          exact Seq.nil ⟨rfl, (by repeat (first | with_reducible exact Off.refl | refine Off.upd ?_ rfl | exact Off.mix | refine Off.mix2 ?_ rfl)), Look.here⟩
        refine Seq.p rfl Ev.assign ?_
        refine Seq.nil ?_
        refine JC.seq ?_
        refine JC.rs ?_
        refine Seq.p rfl Ev.move ?_
        refine Seq.p rfl (Ev.cut sl.sl_uint8 (hr := hsubT.r) (l := 0) (h := 3) (hlo := rfl) (hhi := ⟨_, (by repeat (first | exact Look.here | apply Look.there (hne := rfl) | exact Look.const | apply Look.mix rfl | exact Look.arg0 | apply Look.args | exact Look.func))⟩)) ?_
        refine Seq.p rfl (Ev.strOf (l := T.take 3) sl.sl_uint8 it.uint8 st.string (hr := hTs.r)) ?_
        refine Seq.p rfl Ev.neStr ?_
        refine Seq.p rfl Ev.move ?_
        refine Seq.orG (D := [79, 80, 81, 82]) (d := 79) (t := 82) (k := 3) (hn := fun h79 => ?_) (hx := ?_)
        · repeat (first | refine Seq.gn rfl rfl rfl rfl ?_ | refine Seq.gu rfl rfl rfl ?_)
          refine Seq.p rfl Ev.pickT ?_
          exact Seq.nil ⟨rfl, (by repeat (first | with_reducible exact Off.refl | refine Off.upd ?_ rfl | exact Off.mix | refine Off.mix2 ?_ rfl)), Look.here⟩
        apply Exists.intro
        refine ⟨fun h79 => ?_, fun u82 => ?_⟩
        · try simp only [decide_eq_true_eq, decide_eq_false_iff_not, Bool.and_eq_true, Bool.or_eq_true, Bool.not_eq_true', Bool.not_eq_false', Bool.or_eq_false_iff, Bool.and_eq_false_imp] at h79
          refine Seq.gy rfl rfl rfl ?_
          refine Seq.p rfl Ev.move ?_
          refine Seq.gy rfl rfl rfl ?_
          refine Seq.p rfl Ev.not ?_
          refine Seq.p rfl Ev.pickF ?_
          exact Seq.nil ⟨rfl, (by repeat (first | with_reducible exact Off.refl | refine Off.upd ?_ rfl | exact Off.mix | refine Off.mix2 ?_ rfl)), Look.here⟩
        refine Seq.p rfl Ev.move ?_
        refine Seq.orG (D := [83, 84, 85, 86, 87, 88]) (d := 83) (t := 88) (k := 5) (hn := fun h83 => ?_) (hx := ?_)
        · repeat (first | refine Seq.gn rfl rfl rfl rfl ?_ | refine Seq.gu rfl rfl rfl ?_)
          refine Seq.p rfl Ev.pickT ?_
          exact Seq.nil ⟨rfl, (by repeat (first | with_reducible exact Off.refl | refine Off.upd ?_ rfl | exact Off.mix | refine Off.mix2 ?_ rfl)), Look.here⟩
        apply Exists.intro
        refine ⟨fun h83 => ?_, fun u88 => ?_⟩
        · try simp only [decide_eq_true_eq, decide_eq_false_iff_not, Bool.and_eq_true, Bool.or_eq_true, Bool.not_eq_true', Bool.not_eq_false', Bool.or_eq_false_iff, Bool.and_eq_false_imp] at h83
          refine Seq.gy rfl rfl rfl ?_
          refine Seq.p rfl Ev.move ?_
          refine Seq.gy rfl rfl rfl ?_
          refine Seq.p rfl (Ev.iaN sl.sl_uint8 (i := 6) (hr := hsubT.r) (hi := by rw [hT]; decide)) ?_
          refine Seq.gy rfl rfl rfl ?_
          refine Seq.p rfl (Ev.ldE1 sc.uint8 (i := 6) (hr := hsubT.r) (hi := by rw [hT]; decide)) ?_
          refine Seq.gy rfl rfl rfl ?_
          refine Seq.p rfl Ev.ne ?_
          refine Seq.p rfl Ev.pickF ?_
          exact Seq.nil ⟨rfl, (by repeat (first | with_reducible exact Off.refl | refine Off.upd ?_ rfl | exact Off.mix | refine Off.mix2 ?_ rfl)), Look.here⟩
        refine Seq.p rfl Ev.move ?_
        refine Seq.orG (D := [89, 90, 91, 92]) (d := 89) (t := 92) (k := 3) (hn := fun h89 => ?_) (hx := ?_)
        · repeat (first | refine Seq.gn rfl rfl rfl rfl ?_ | refine Seq.gu rfl rfl rfl ?_)
          refine Seq.p rfl Ev.pickT ?_
          exact Seq.nil ⟨rfl, (by repeat (first | with_reducible exact Off.refl | refine Off.upd ?_ rfl | exact Off.mix | refine Off.mix2 ?_ rfl)), Look.here⟩
        apply Exists.intro
        refine ⟨fun h89 => ?_, fun u92 => ?_⟩
        · try simp only [decide_eq_true_eq, decide_eq_false_iff_not, Bool.and_eq_true, Bool.or_eq_true, Bool.not_eq_true', Bool.not_eq_false', Bool.or_eq_false_iff, Bool.and_eq_false_imp] at h89
          refine Seq.gy rfl rfl rfl ?_
          refine Seq.p rfl Ev.move ?_
          refine Seq.gy rfl rfl rfl ?_
          refine Seq.p rfl Ev.eq ?_
          refine Seq.p rfl Ev.pickF ?_
          exact Seq.nil ⟨rfl, (by repeat (first | with_reducible exact Off.refl | refine Off.upd ?_ rfl | exact Off.mix | refine Off.mix2 ?_ rfl)), Look.here⟩
        refine Seq.p rfl Ev.move ?_
        refine Seq.orG (D := [93, 94, 95, 96, 97, 98, 99, 100]) (d := 93) (t := 100) (k := 7) (hn := fun h93 => ?_) (hx := ?_)
        · repeat (first | refine Seq.gn rfl rfl rfl rfl ?_ | refine Seq.gu rfl rfl rfl ?_)
          refine Seq.p rfl Ev.pickT ?_
          exact Seq.nil ⟨rfl, (by repeat (first | with_reducible exact Off.refl | refine Off.upd ?_ rfl | exact Off.mix | refine Off.mix2 ?_ rfl)), Look.here⟩
        apply Exists.intro
        refine ⟨fun h93 => ?_, fun u100 => ?_⟩
        · try simp only [decide_eq_true_eq, decide_eq_false_iff_not, Bool.and_eq_true, Bool.or_eq_true, Bool.not_eq_true', Bool.not_eq_false', Bool.or_eq_false_iff, Bool.and_eq_false_imp] at h93
          refine Seq.gy rfl rfl rfl ?_
          refine Seq.p rfl Ev.move ?_
          refine Seq.gy rfl rfl rfl ?_
          refine Seq.p rfl Ev.move ?_
          refine Seq.gy rfl rfl rfl ?_
          refine Seq.p rfl (Ev.dec (m := f + k)) ?_
          refine Seq.gy rfl rfl rfl ?_
          refine Seq.p rfl (Ev.iaN sl.sl_uint8 (hr := hr.r)) ?_
          refine Seq.gy rfl rfl rfl ?_
          refine Seq.p rfl (Ev.ldE1 sc.uint8 (hr := hr.r)) ?_
          refine Seq.gy rfl rfl rfl ?_
          refine Seq.p rfl Ev.ne ?_
          refine Seq.p rfl Ev.pickF ?_
          exact Seq.nil ⟨rfl, (by repeat (first | with_reducible exact Off.refl | refine Off.upd ?_ rfl | exact Off.mix | refine Off.mix2 ?_ rfl)), Look.here⟩
        refine Seq.nil ?_
        first | refine JC.c (ht := fun c100 => ?_) (hf := fun c100 => ?_) | refine JC.cb (ht := fun c100 => ?_) (hf := fun c100 => ?_)
        · -- then_t100
          have hcc : trailB T = false ∨ k = 0 ∨ l[f + k - 1]! ≠ 1 := by
            obtain ⟨x0, x1, x2, x3, x4, x5, x6, rfl⟩ := seven hT
            rw [show strOf (List.take 3 [x0, x1, x2, x3, x4, x5, x6]) = strOf [x0, x1, x2] from rfl, show (⟨#[49, 48, 61]⟩ : ByteArray) = strOf [49, 48, 61] from rfl] at c100
            have hi := strOf_inj (a := [x0, x1, x2]) (b := [49, 48, 61]) (fun n hn => hBT n (by simp at hn ⊢; rcases hn with h | h | h <;> simp [h])) (by decide)
            rw [trailB_seven]
            generalize l[f + k - 1]! = y at c100 ⊢
            simp only [Bool.or_eq_true, Bool.not_eq_true', Bool.and_eq_false_iff, decide_eq_true_eq, decide_eq_false_iff_not, ne_eq, hi, digit, List.cons.injEq, and_true, Bool.and_eq_true] at c100 ⊢
            simp at c100
            omega
          refine JC.rs ?_
          refine Seq.p rfl Ev.move ?_
          refine Seq.callP rfl (fun w hw => refBad) ?_
          refine Seq.storeN [_, _, _, _, _, _] sz.bourseref03_Answer (k := ?_)
          refine Seq.nil ?_
          refine JC.ret ?_
          -- return 3
          show retQ _ _ _ _ _ _ _ _
          refine retB1 ag.bourseref03_Answer (H' := [nilC]) (hp := (by repeat (first | exact Part.refl _ | exact Part.nil _ | apply Part.here | apply Part.skip))) (hpost := ?_)
          rw [readF_body hh hs1 hs2 (by rw [hTg]; exact hcc)]
          exact ⟨none, 0, rfl, rfl⟩
        · -- else_t100
          have hcc : ¬ (trailB T = false ∨ k = 0 ∨ l[f + k - 1]! ≠ 1) := by
            obtain ⟨x0, x1, x2, x3, x4, x5, x6, rfl⟩ := seven hT
            rw [show strOf (List.take 3 [x0, x1, x2, x3, x4, x5, x6]) = strOf [x0, x1, x2] from rfl, show (⟨#[49, 48, 61]⟩ : ByteArray) = strOf [49, 48, 61] from rfl] at c100
            have hi := strOf_inj (a := [x0, x1, x2]) (b := [49, 48, 61]) (fun n hn => hBT n (by simp at hn ⊢; rcases hn with h | h | h <;> simp [h])) (by decide)
            rw [trailB_seven]
            generalize l[f + k - 1]! = y at c100 ⊢
            simp only [Bool.or_eq_false_iff, Bool.not_eq_false', Bool.and_eq_true, decide_eq_true_eq, decide_eq_false_iff_not, ne_eq, hi, digit, List.cons.injEq, and_true, Bool.and_eq_false_iff] at c100 ⊢
            simp at c100
            omega
          refine JC.skip ?_
          refine JC.seq ?_
          refine JC.qs mixed (by kernel_rfl) ?_
          refine Qui.p rfl Ev.move ?_
          refine Qui.p rfl (Ev.cut sl.sl_uint8 (hr := hsubT.r) (l := 3) (h := 6) (hlo := ⟨_, (by repeat (first | exact Look.here | apply Look.there (hne := rfl) | exact Look.const | apply Look.mix rfl | exact Look.arg0 | apply Look.args | exact Look.func))⟩) (hhi := ⟨_, (by repeat (first | exact Look.here | apply Look.there (hne := rfl) | exact Look.const | apply Look.mix rfl | exact Look.arg0 | apply Look.args | exact Look.func))⟩)) ?_
          refine Qui.p rfl (Ev.strOf (l := (T.drop 3).take 3) sl.sl_uint8 it.uint8 st.string (hr := hTd.r)) ?_
          refine Qui.p rfl Ev.move ?_
          refine Qui.p rfl Ev.move ?_
          refine Qui.p rfl (Ev.cut sl.sl_uint8 (hr := hr.r) (l := 0) (h := f + k) (hlo := rfl) (hhi := ⟨_, (by repeat (first | exact Look.here | apply Look.there (hne := rfl) | exact Look.const | apply Look.mix rfl | exact Look.arg0 | apply Look.args | exact Look.func))⟩)) ?_
          refine Qui.call rfl (fun w hw => refSum (hhead.up hw) (isBytes_take hB)) ?_
          refine Qui.call rfl (fun w hw => refThree (sumB_range (l.take (f + k)))) ?_
          refine Qui.p rfl Ev.neStr ?_
          refine Qui.nil ?_
          first | refine JC.c (ht := fun c111 => ?_) (hf := fun c111 => ?_) | refine JC.cb (ht := fun c111 => ?_) (hf := fun c111 => ?_)
          · -- then_t111
            have h4 : T ≠ lastL (l.take (f + k)) := fun h => c111 (by rw [(trail_last hT (by cases hb : trailB T with | true => rfl | false => exact absurd (.inl hb) hcc)).1 h])
            refine JC.rs ?_
            refine Seq.p rfl Ev.move ?_
            refine Seq.callP rfl (fun w hw => refBad) ?_
            refine Seq.storeN [_, _, _, _, _, _] sz.bourseref03_Answer (k := ?_)
            refine Seq.nil ?_
            refine JC.ret ?_
            -- return 4
            show retQ _ _ _ _ _ _ _ _
            refine retB1 ag.bourseref03_Answer (H' := [nilC]) (hp := (by repeat (first | exact Part.refl _ | exact Part.nil _ | apply Part.here | apply Part.skip))) (hpost := ?_)
            rw [readF_trail hh hs1 hs2 (by rw [hTg]; exact hcc) (by rw [hTg]; exact h4)]
            exact ⟨none, 0, rfl, rfl⟩
          · -- else_t111
            have h4 : ¬ T ≠ lastL (l.take (f + k)) := fun h => h ((trail_last hT (by cases hb : trailB T with | true => rfl | false => exact absurd (.inl hb) hcc)).2 ((strOf_inj (isBytes_take (isBytes_drop hBT)) (isBytes_three _)).1 (Classical.not_not.1 c111)))
            have hrd := readF_parts hh hs1 hs2 (by rw [hTg]; exact hcc) (by rw [hTg]; exact h4)
            have hb1 : l[f + k - 1]! = 1 := Classical.not_not.1 fun h => hcc (.inr (.inr h))
            obtain ⟨kind, xs, place, why, hpa, hz⟩ : ∃ kind xs place why, partsA (partsF l f (f + k) f ⟨#[]⟩ []) = ⟨kind, xs, place, why, 0⟩ ∧ readF l = ⟨kind, xs, if why = 0 then ((f + k + 7 : Nat) : Int) else place, why, f + k + 7⟩ := by
              rw [hrd]
              cases hq : partsF l f (f + k) f ⟨#[]⟩ [] with
              | bad p e => exact ⟨_, _, _, _, rfl, by simp only [partA]; rw [if_neg (partsF_why hq)]⟩
              | ok kind xs => exact ⟨_, _, _, _, rfl, rfl⟩
            refine JC.skip ?_
            refine JC.rs ?_
            refine Seq.p rfl Ev.move ?_
            refine Seq.p rfl Ev.move ?_
            refine Seq.p rfl Ev.move ?_
            refine Seq.call rfl (fun w' hw => refParts (hr.up hw) hB hl (by omega) (by omega) hb1) (F := _) (by exact List.Perm.refl _) ?_
            rw [hpa]
            rintro _ _ ⟨A1, c1, rfl, rfl⟩
            simp only [ansV]
            refine Seq.storeN [_, _, _, _, _, _] sz.bourseref03_Answer (k := ?_)
            refine Seq.nil ?_
            refine JC.rs ?_
            refine Seq.p rfl Ev.move ?_
            refine Seq.p rfl (Ev.addN (m := f + k) (c := 7)) ?_
            refine Seq.p rfl (Ev.faB fd.bourseref03_Answer_4) ?_
            refine Seq.storeN [_, _, _, _, _, _] sz.bool (k := ?_)
            refine Seq.p rfl (Ev.faB fd.bourseref03_Answer_5) ?_
            refine Seq.storeN [_, _, _, _, _, _] sz.int (k := ?_)
            refine Seq.nil ?_
            refine JC.seq ?_
            refine JC.rs ?_
            refine Seq.p rfl (Ev.faB fd.bourseref03_Answer_3) ?_
            refine Seq.p rfl (Ev.ldB sc.api_Errno) ?_
            refine Seq.p rfl Ev.eq ?_
            refine Seq.nil ?_
            first | refine JC.c (ht := fun c124 => ?_) (hf := fun c124 => ?_) | refine JC.cb (ht := fun c124 => ?_) (hf := fun c124 => ?_)
            · -- then_t124
              refine JC.reg ?_
              refine Seq.p rfl Ev.move ?_
              refine Seq.p rfl (Ev.addN (m := f + k) (c := 7)) ?_
              refine Seq.p rfl (Ev.faB fd.bourseref03_Answer_2) ?_
              refine Seq.storeN [_, _, _, _, _, _] sz.int (k := ?_)
              refine Seq.nil ?_
              refine JC.rs ?_
              refine Seq.p rfl (Ev.ldBA ag.bourseref03_Answer) ?_
              refine Seq.storeN [_, _, _, _, _, _] sz.bourseref03_Answer (k := ?_)
              refine Seq.nil ?_
              refine JC.ret ?_
              -- return 5
              show retQ _ _ _ _ _ _ _ _
              refine retB1 ag.bourseref03_Answer (H' := [tagsC (.slice A1 xs.length c1) xs]) (hp := (by repeat (first | exact Part.refl _ | exact Part.nil _ | apply Part.here | apply Part.skip))) (hpost := ?_)
              rw [hz]
              first | exact ⟨A1, c1, by rw [if_pos c124]; rfl, rfl⟩ | exact ⟨A1, c1, by rw [if_neg c124]; rfl, rfl⟩
            · -- else_t124
              refine JC.skip ?_
              refine JC.rs ?_
              refine Seq.p rfl (Ev.ldBA ag.bourseref03_Answer) ?_
              refine Seq.storeN [_, _, _, _, _, _] sz.bourseref03_Answer (k := ?_)
              refine Seq.nil ?_
              refine JC.ret ?_
              -- return 6
              show retQ _ _ _ _ _ _ _ _
              refine retB1 ag.bourseref03_Answer (H' := [tagsC (.slice A1 xs.length c1) xs]) (hp := (by repeat (first | exact Part.refl _ | exact Part.nil _ | apply Part.here | apply Part.skip))) (hpost := ?_)
              rw [hz]
              first | exact ⟨A1, c1, by rw [if_pos c124]; rfl, rfl⟩ | exact ⟨A1, c1, by rw [if_neg c124]; rfl, rfl⟩
set_option maxHeartbeats 1000000 in
set_option maxRecDepth 100000 in
theorem refDecode {w : World} {v : Value} {l : List Int} (hr : RSl byteEnc 1 w [] v l) (hB : isBytes l) (hl : l.length ≤ 281474976710656) :
    Spec Go.Proofs.Tryd.prog 18 #[v] w [] (fun u H' => ∃ A c, u = .tuple #[.string (readF l).kind, .slice A (readF l).tags.length c, .int .i64 (readF l).place, .int .i64 (readF l).why] ∧ H' = [tagsC (.slice A (readF l).tags.length c) (readF l).tags]) := by
  refine Spec.enter (fn := Go.Proofs.Tryd.f18) (n := 17) [v] Go.Proofs.Tryd.func18 (by kernel_rfl) rfl Go.Proofs.Tryd.ntmps18 Go.Proofs.Tryd.results18 rfl (Own.nil _) ?_
  refine JC.rs ?_
  refine Seq.p rfl Ev.assign ?_
  refine Seq.p rfl Ev.assign ?_
  refine Seq.p rfl Ev.assign ?_
  refine Seq.p rfl Ev.assign ?_
  refine Seq.nil ?_
  refine JC.rs ?_
  refine Seq.p rfl Ev.move ?_
  refine Seq.call rfl (fun w' hw => refRead (hr.up hw) hB hl) (F := _) (by exact List.Perm.refl _) ?_
  rintro _ _ ⟨A1, c1, rfl, rfl⟩
  simp only [ansV]
  refine Seq.alloc (cs := [_, _, _, _, _, _]) (hz := z.bourseref03_Answer) (k := ?_); intro b6
  refine Seq.storeN [_, _, _, _, _, _] sz.bourseref03_Answer (k := ?_)
  refine Seq.nil ?_
  refine JC.qs mixed (by kernel_rfl) ?_
  refine Qui.p rfl (Ev.faB fd.bourseref03_Answer_0) ?_
  refine Qui.p rfl (Ev.ldB sc.string) ?_
  refine Qui.p rfl (Ev.faB fd.bourseref03_Answer_1) ?_
  refine Qui.p rfl (Ev.ldB sc.sl_api_Tag) ?_
  refine Qui.p rfl (Ev.faB fd.bourseref03_Answer_2) ?_
  refine Qui.p rfl (Ev.ldB sc.int) ?_
  refine Qui.p rfl (Ev.faB fd.bourseref03_Answer_3) ?_
  refine Qui.p rfl (Ev.ldB sc.api_Errno) ?_
  refine Qui.p rfl Ev.assign ?_
  refine Qui.p rfl Ev.assign ?_
  refine Qui.p rfl Ev.assign ?_
  refine Qui.p rfl Ev.assign ?_
  refine Qui.nil ?_
  refine JC.ret ?_
  -- return 0
  show retQ _ _ _ _ _ _ _ _
  refine retI (RVs.t (hs := (RVs.t (hs := (RVs.t (hs := (RVs.t (hs := RVs.nil)))))))) (H' := [tagsC (.slice A1 (readF l).tags.length c1) (readF l).tags]) (by repeat (first | exact Part.refl _ | exact Part.nil _ | apply Part.here | apply Part.skip)) ?_
  exact ⟨A1, c1, rfl, rfl⟩
end Go.Rx
/- The program's reading of a line. -/
namespace Go.Rx
open Go Go.RowKit Go.Lib Go.Proofs.YtcggppjpnepoiaaDoor
set_option linter.unusedVariables false
set_option linter.unusedSimpArgs false
def lineA (r : ReadA) (A : Option Addr) (c : Nat) : Value := .agg #[.string r.kind, .slice A r.tags.length c, .int .i64 (r.size : Int), .int .i64 (if r.why = 0 then 0 else r.place)]
theorem frameV_form (l : List Int) : ∃ sz0 pl fr to c, frameV l (headF l) = .tuple #[lineV sz0 pl, .int .i64 fr, .int .i64 to, .int .i64 c] ∧
    ((c ≠ 0 ∧ sz0 = 0 ∧ readF l = badA pl c) ∨ (c = 0 ∧ ∃ f k : Nat, headF l = .ok f k ∧ ¬ 2048 < f + k + 7 ∧ ¬ l.length < f + k + 7 ∧ sz0 = ((f + k + 7 : Nat) : Int) ∧ pl = 0 ∧ fr = (f : Int) ∧ to = ((f + k : Nat) : Int) ∧ 11 ≤ f ∧ f ≤ 16 ∧ k < 10000)) := by
  cases h : headF l with
  | bad a c => exact ⟨0, a, 0, 0, c, rfl, .inl ⟨head_why h, rfl, readF_bad h⟩⟩
  | ok f k =>
    rw [frameV_ok]
    by_cases h1 : 2048 < f + k + 7
    · rw [if_pos h1]
      exact ⟨0, 10, 0, 0, 2, rfl, .inl ⟨by decide, rfl, readF_long h h1⟩⟩
    · rw [if_neg h1]
      by_cases h2 : l.length < f + k + 7
      · rw [if_pos h2]
        exact ⟨0, l.length, 0, 0, 20, rfl, .inl ⟨by decide, rfl, readF_short h h1 h2⟩⟩
      · rw [if_neg h2]
        exact ⟨_, 0, _, _, 0, rfl, .inr ⟨rfl, f, k, rfl, h1, h2, rfl, rfl, rfl, rfl, head_from h⟩⟩
theorem readF_cases (l : List Int) : (∃ a c, readF l = badA a c ∧ c ≠ 0) ∨ ∃ f k, headF l = .ok f k ∧ readF l = partA (f + k + 7) (partsF l f (f + k) f ⟨#[]⟩ []) := by
  unfold readF
  split
  · rename_i a c h
    exact .inl ⟨a, c, rfl, head_why h⟩
  · rename_i f k h
    split
    · exact .inl ⟨_, _, rfl, by decide⟩
    · split
      · exact .inl ⟨_, _, rfl, by decide⟩
      · split
        · exact .inl ⟨_, _, rfl, by decide⟩
        · split
          · exact .inl ⟨_, _, rfl, by decide⟩
          · exact .inr ⟨f, k, h, rfl⟩
theorem readF_bad_form {l : List Int} (h : (readF l).why ≠ 0) : (readF l).kind = ⟨#[]⟩ ∧ (readF l).tags = [] := by
  rcases readF_cases l with ⟨a, c, h1, _⟩ | ⟨f, k, _, h1⟩
  · rw [h1]; exact ⟨rfl, rfl⟩
  · rw [h1] at h ⊢
    cases hp : partsF l f (f + k) f ⟨#[]⟩ [] with
    | bad p e => exact ⟨rfl, rfl⟩
    | ok kind xs => rw [hp] at h; exact absurd rfl h
theorem readF_ok_place {l : List Int} (h : (readF l).why = 0) : (readF l).place = ((readF l).size : Int) := by
  rcases readF_cases l with ⟨a, c, h1, h2⟩ | ⟨f, k, _, h1⟩
  · rw [h1] at h; exact absurd h h2
  · rw [h1] at h ⊢
    cases hp : partsF l f (f + k) f ⟨#[]⟩ [] with
    | bad p e => rw [hp] at h; exact absurd h (partsF_why hp)
    | ok kind xs => rfl
theorem take_field {l : List Int} {p : Nat} : (l.drop p).take (firstF 1 (l.drop p)) = fieldAt l p := rfl
set_option maxHeartbeats 4000000 in
set_option maxRecDepth 100000 in
theorem textRead {w : World} {v : Value} {l : List Int} (hr : RSl byteEnc 1 w [] v l) (hB : isBytes l) (hl : l.length ≤ 281474976710656) (hL : Laid w) :
    Spec Go.Proofs.Tryd.prog 35 #[v] w [] (fun u H' => ∃ A c, u = .tuple #[lineA (readF l) A c, .int .i64 (readF l).why] ∧ H' = [tagsC (.slice A (readF l).tags.length c) (readF l).tags]) := by
  obtain ⟨sz0, pl, fr, to, c0, hfv, hfacts⟩ := frameV_form l
  refine Spec.enter (fn := Go.Proofs.Tryd.f35) (n := 88) [v] Go.Proofs.Tryd.func35 (by kernel_rfl) rfl Go.Proofs.Tryd.ntmps35 Go.Proofs.Tryd.results35 rfl (Own.nil _) ?_
  refine JC.re (fun w h => (h.nilOwn 30 2).nilOwn 30 2) ?_
  refine JC.rs ?_
  refine Seq.alloc (cs := [_, _, _, _]) (hz := z.text_line) (k := ?_); intro b2
  refine Seq.p rfl Ev.assign ?_
  refine Seq.nil ?_
  refine JC.rs ?_
  refine Seq.p rfl Ev.move ?_
  refine Seq.callP rfl (fun w hw => hfv ▸ textFrame (hr.up hw) hB (hL.upd hw)) ?_
  refine Seq.p rfl Ev.move ?_
  refine Seq.p rfl Ev.extract ?_
  refine Seq.p rfl Ev.extract ?_
  refine Seq.p rfl Ev.extract ?_
  refine Seq.p rfl Ev.extract ?_
  refine Seq.alloc (cs := [_, _, _, _]) (hz := z.text_line) (k := ?_); intro b4
  refine Seq.storeN [_, _, _, _] sz.text_line (k := ?_)
  refine Seq.p rfl Ev.assign ?_
  refine Seq.p rfl Ev.assign ?_
  refine Seq.p rfl Ev.assign ?_
  refine Seq.nil ?_
  refine JC.seq ?_
  refine JC.rs ?_
  refine Seq.p rfl Ev.move ?_
  refine Seq.p rfl Ev.ne ?_
  refine Seq.nil ?_
  first | refine JC.c (ht := fun c19 => ?_) (hf := fun c19 => ?_) | refine JC.cb (ht := fun c19 => ?_) (hf := fun c19 => ?_)
  · -- then_t19
    refine JC.rs ?_
    refine Seq.p rfl (Ev.ldBA ag.text_line) ?_
    refine Seq.p rfl Ev.move ?_
    refine Seq.storeN [_, _, _, _] sz.text_line (k := ?_)
    refine Seq.p rfl Ev.assign ?_
    refine Seq.nil ?_
    refine JC.ret ?_
    -- return 0
    show retQ _ _ _ _ _ _ _ _
    refine retB2 ag.text_line (H' := [nilC]) (hp := (by repeat (first | exact Part.refl _ | exact Part.nil _ | apply Part.here | apply Part.skip))) (hpost := ?_)
    rcases hfacts with ⟨h1, rfl, h2⟩ | ⟨h1, _⟩
    · rw [h2]; exact ⟨none, 0, by unfold lineA badA; simp only; rw [if_neg h1]; rfl, rfl⟩
    · exact absurd h1 c19
  · -- else_t19
    obtain ⟨rfl, f, k, hh, hs1, hs2, rfl, rfl, rfl, rfl, hf1, hf2, hk⟩ : c0 = 0 ∧ ∃ f k : Nat, headF l = .ok f k ∧ ¬ 2048 < f + k + 7 ∧ ¬ l.length < f + k + 7 ∧ sz0 = ((f + k + 7 : Nat) : Int) ∧ pl = 0 ∧ fr = (f : Int) ∧ to = ((f + k : Nat) : Int) ∧ 11 ≤ f ∧ f ≤ 16 ∧ k < 10000 := by
      rcases hfacts with ⟨h1, _⟩ | h
      · exact absurd h1 c19
      · exact h
    have hT : ((l.drop (f + k)).take 7).length = 7 := by rw [List.length_take, List.length_drop]; omega
    have hBT : isBytes ((l.drop (f + k)).take 7) := isBytes_take (isBytes_drop hB)
    have hsubT : RSl byteEnc 1 w [] (subSl v (f + k) (f + k + 7) 1) ((l.drop (f + k)).take 7) := by
      have h2 := hr.sub (lo := f + k) (hi := f + k + 7) (by omega) (by omega)
      rwa [show f + k + 7 - (f + k) = 7 by omega] at h2
    have hhead : RSl byteEnc 1 w [] (subSl v 0 (f + k) 1) (l.take (f + k)) := by
      have h2 := hr.sub (lo := 0) (hi := f + k) (by omega) (by omega)
      rwa [List.drop_zero] at h2
    generalize hTg : (l.drop (f + k)).take 7 = T at hT hBT hsubT
    refine JC.skip ?_
    refine JC.seq ?_
    refine JC.blk ?_
    refine JC.rs ?_
    refine Seq.p rfl Ev.move ?_
    refine Seq.p rfl Ev.move ?_
    refine Seq.p rfl (Ev.faB fd.text_line_2) ?_
    refine Seq.p rfl (Ev.ldB sc.int) ?_
    refine Seq.p rfl (Ev.cut sl.sl_uint8 (hr := hr.r) (l := f + k) (h := f + k + 7) (hlo := ⟨_, (by repeat (first | exact Look.here | apply Look.there (hne := rfl) | exact Look.const | apply Look.mix rfl | exact Look.arg0 | apply Look.args | exact Look.func))⟩) (hhi := ⟨_, (by repeat (first | exact Look.here | apply Look.there (hne := rfl) | exact Look.const | apply Look.mix rfl | exact Look.arg0 | apply Look.args | exact Look.func))⟩)) ?_
    refine Seq.callP rfl (fun w hw => textTrailed (hsubT.up hw) hBT hT) ?_
    refine Seq.p rfl Ev.not ?_
    refine Seq.p rfl Ev.move ?_
    refine Seq.orG (D := [30, 31, 32, 33, 34]) (d := 30) (t := 34) (k := 4) (hn := fun h30 => ?_) (hx := ?_)
    · repeat (first | refine Seq.gn rfl rfl rfl rfl ?_ | refine Seq.gu rfl rfl rfl ?_)
      refine Seq.p rfl Ev.pickT ?_
      exact Seq.nil ⟨rfl, (by repeat (first | with_reducible exact Off.refl | refine Off.upd ?_ rfl | exact Off.mix | refine Off.mix2 ?_ rfl)), Look.here⟩
    apply Exists.intro
    refine ⟨fun h30 => ?_, fun u34 => ?_⟩
    · try simp only [decide_eq_true_eq, decide_eq_false_iff_not, Bool.and_eq_true, Bool.or_eq_true, Bool.not_eq_true', Bool.not_eq_false', Bool.or_eq_false_iff, Bool.and_eq_false_imp] at h30
      refine Seq.gy rfl rfl rfl ?_
      refine Seq.p rfl Ev.move ?_
      refine Seq.gy rfl rfl rfl ?_
      refine Seq.p rfl Ev.move ?_
      refine Seq.gy rfl rfl rfl ?_
      refine Seq.p rfl Ev.eq ?_
      refine Seq.p rfl Ev.pickF ?_
      exact Seq.nil ⟨rfl, (by repeat (first | with_reducible exact Off.refl | refine Off.upd ?_ rfl | exact Off.mix | refine Off.mix2 ?_ rfl)), Look.here⟩
    refine Seq.p rfl Ev.move ?_
    refine Seq.orG (D := [35, 36, 37, 38, 39, 40, 41, 42]) (d := 35) (t := 42) (k := 7) (hn := fun h35 => ?_) (hx := ?_)
    · repeat (first | refine Seq.gn rfl rfl rfl rfl ?_ | refine Seq.gu rfl rfl rfl ?_)
      refine Seq.p rfl Ev.pickT ?_
      exact Seq.nil ⟨rfl, (by repeat (first | with_reducible exact Off.refl | refine Off.upd ?_ rfl | exact Off.mix | refine Off.mix2 ?_ rfl)), Look.here⟩
    apply Exists.intro
    refine ⟨fun h35 => ?_, fun u42 => ?_⟩
    · try simp only [decide_eq_true_eq, decide_eq_false_iff_not, Bool.and_eq_true, Bool.or_eq_true, Bool.not_eq_true', Bool.not_eq_false', Bool.or_eq_false_iff, Bool.and_eq_false_imp] at h35
      refine Seq.gy rfl rfl rfl ?_
      refine Seq.p rfl Ev.move ?_
      refine Seq.gy rfl rfl rfl ?_
      refine Seq.p rfl Ev.move ?_
      refine Seq.gy rfl rfl rfl ?_
      refine Seq.p rfl (Ev.dec (m := f + k)) ?_
      refine Seq.gy rfl rfl rfl ?_
      refine Seq.p rfl (Ev.iaN sl.sl_uint8 (hr := hr.r)) ?_
      refine Seq.gy rfl rfl rfl ?_
      refine Seq.p rfl (Ev.ldE1 sc.uint8 (hr := hr.r)) ?_
      refine Seq.gy rfl rfl rfl ?_
      refine Seq.p rfl Ev.ne ?_
      refine Seq.p rfl Ev.pickF ?_
      exact Seq.nil ⟨rfl, (by repeat (first | with_reducible exact Off.refl | refine Off.upd ?_ rfl | exact Off.mix | refine Off.mix2 ?_ rfl)), Look.here⟩
    refine Seq.p rfl Ev.assign ?_
    refine Seq.nil ?_
    first | refine JC.c (ht := fun c22 => ?_) (hf := fun c22 => ?_) | refine JC.cb (ht := fun c22 => ?_) (hf := fun c22 => ?_)
    · -- then_t22
      have hcc : trailB T = false ∨ k = 0 ∨ l[f + k - 1]! ≠ 1 := by
        simp only [Bool.or_eq_true, Bool.not_eq_true', decide_eq_true_eq] at c22
        rcases c22 with (h | h) | h
        · exact .inl h
        · exact .inr (.inl (by omega))
        · exact .inr (.inr h)
      refine JC.rs ?_
      refine Seq.p rfl Ev.move ?_
      refine Seq.p rfl (Ev.buildN [_, _, _, _] pl.text_line z.text_line) ?_
      refine Seq.storeN [_, _, _, _] sz.text_line (k := ?_)
      refine Seq.p rfl Ev.assign ?_
      refine Seq.nil ?_
      refine JC.ret ?_
      -- return 1
      show retQ _ _ _ _ _ _ _ _
      refine retB2 ag.text_line (H' := [nilC]) (hp := (by repeat (first | exact Part.refl _ | exact Part.nil _ | apply Part.here | apply Part.skip))) (hpost := ?_)
      rw [readF_body hh hs1 hs2 (by rw [hTg]; exact hcc)]
      exact ⟨none, 0, rfl, rfl⟩
    · -- else_t22
      have hcc : ¬ (trailB T = false ∨ k = 0 ∨ l[f + k - 1]! ≠ 1) := by
        simp only [Bool.or_eq_false_iff, Bool.not_eq_false', decide_eq_false_iff_not] at c22
        rintro (h | h | h)
        · rw [c22.1.1] at h; cases h
        · exact c22.1.2 (by omega)
        · exact c22.2 h
      refine JC.qs mixed (by kernel_rfl) ?_
      refine Qui.p rfl Ev.move ?_
      refine Qui.p rfl Ev.move ?_
      refine Qui.p rfl (Ev.faB fd.text_line_2) ?_
      refine Qui.p rfl (Ev.ldB sc.int) ?_
      refine Qui.p rfl (Ev.cut sl.sl_uint8 (hr := hr.r) (l := f + k) (h := f + k + 7) (hlo := ⟨_, (by repeat (first | exact Look.here | apply Look.there (hne := rfl) | exact Look.const | apply Look.mix rfl | exact Look.arg0 | apply Look.args | exact Look.func))⟩) (hhi := ⟨_, (by repeat (first | exact Look.here | apply Look.there (hne := rfl) | exact Look.const | apply Look.mix rfl | exact Look.arg0 | apply Look.args | exact Look.func))⟩)) ?_
      refine Qui.p rfl (Ev.strOf (l := T) sl.sl_uint8 it.uint8 st.string (hr := hsubT.r)) ?_
      refine Qui.p rfl Ev.move ?_
      refine Qui.p rfl Ev.move ?_
      refine Qui.p rfl (Ev.cut sl.sl_uint8 (hr := hr.r) (l := 0) (h := f + k) (hlo := rfl) (hhi := ⟨_, (by repeat (first | exact Look.here | apply Look.there (hne := rfl) | exact Look.const | apply Look.mix rfl | exact Look.arg0 | apply Look.args | exact Look.func))⟩)) ?_
      refine Qui.call rfl (fun w hw => textLast (hhead.up hw) (isBytes_take hB) (hL.upd hw)) ?_
      refine Qui.p rfl Ev.neStr ?_
      refine Qui.p rfl Ev.assign ?_
      refine Qui.nil ?_
      first | refine JC.c (ht := fun c45 => ?_) (hf := fun c45 => ?_) | refine JC.cb (ht := fun c45 => ?_) (hf := fun c45 => ?_)
      · -- then_t45
        have h4 : T ≠ lastL (l.take (f + k)) := fun h => c45 (by rw [h])
        refine JC.rs ?_
        refine Seq.p rfl Ev.move ?_
        refine Seq.p rfl (Ev.buildN [_, _, _, _] pl.text_line z.text_line) ?_
        refine Seq.storeN [_, _, _, _] sz.text_line (k := ?_)
        refine Seq.p rfl Ev.assign ?_
        refine Seq.nil ?_
        refine JC.ret ?_
        -- return 2
        show retQ _ _ _ _ _ _ _ _
        refine retB2 ag.text_line (H' := [nilC]) (hp := (by repeat (first | exact Part.refl _ | exact Part.nil _ | apply Part.here | apply Part.skip))) (hpost := ?_)
        rw [readF_trail hh hs1 hs2 (by rw [hTg]; exact hcc) (by rw [hTg]; exact h4)]
        exact ⟨none, 0, rfl, rfl⟩
      · -- else_t45
        have h4 : ¬ T ≠ lastL (l.take (f + k)) := fun h => h ((strOf_inj hBT (isBytes_last _)).1 (Classical.not_not.1 c45))
        have hrd := readF_parts hh hs1 hs2 (by rw [hTg]; exact hcc) (by rw [hTg]; exact h4)
        have hb1 : l[f + k - 1]! = 1 := Classical.not_not.1 fun h => hcc (.inr (.inr h))
        refine JC.skip ?_
        refine JC.seq ?_
        refine JC.rs ?_
        refine Seq.p rfl Ev.move ?_
        refine Seq.p rfl Ev.assign ?_
        refine Seq.nil ?_
        refine JC.blk ?_
        refine JC.part (H' := [lineC b4 ⟨#[]⟩ (.slice none 0 0) ((f + k + 7 : Nat) : Int) 0, tagsC (.slice none 0 0) [], lineC b2 ⟨#[]⟩ (.slice none 0 0) 0 0, nilC]) ⟨[], (List.Perm.swap _ _ _).cons _⟩ ?_
        refine JC.loop (α := Nat) (I := fun p e1 H1 => ∃ kind A c xs, Has [3, 8, 9, 10, 60, 61, 62, 63, 64, 65, 66, 67, 68, 69, 70, 71, 72, 73, 74, 75, 76, 77, 78, 79, 80, 81, 82, 83, 84, 85, 86] [(8, .int .i64 (p : Int))] _ e1 ∧ H1 = [lineC b4 kind (.slice A xs.length c) ((f + k + 7 : Nat) : Int) 0, tagsC (.slice A xs.length c) xs, lineC b2 ⟨#[]⟩ (.slice none 0 0) 0 0, nilC] ∧ f ≤ p ∧ p ≤ f + k ∧ xs.length ≤ 64 ∧ partsF l f (f + k) p kind xs = partsF l f (f + k) f ⟨#[]⟩ []) (μ := fun p => f + k - p) f ⟨⟨#[]⟩, none, 0, [], Has.mk Off.refl (allLook_cons (by repeat (first | exact Look.here | apply Look.there (hne := rfl) | exact Look.const | apply Look.mix rfl | exact Look.arg0 | apply Look.args | exact Look.func)) allLook_nil), rfl, by omega, by omega, by simp, rfl⟩ ?_
        rintro p _ _ ⟨kind, A, c, xs, ⟨u, rfl⟩, rfl, hfp, hpt, hx, hq⟩; dsimp only [setL]
        refine JC.seq ?_
        refine JC.rs ?_
        refine Seq.p rfl Ev.move ?_
        refine Seq.p rfl Ev.move ?_
        refine Seq.p rfl Ev.lt ?_
        refine Seq.nil ?_
        first | refine JC.c (ht := fun c62 => ?_) (hf := fun c62 => ?_) | refine JC.cb (ht := fun c62 => ?_) (hf := fun c62 => ?_)
        · -- then_t62
          have hp : p < f + k := by omega
          have hin := first_in hp (by omega) hb1
          have hlen : (l.drop p).length = l.length - p := List.length_drop ..
          have hFl := fieldAt_len (l := l) (p := p)
          have hsubD : RSl byteEnc 1 w [] (subSl v p l.length 1) (l.drop p) := by
            have h2 := hr.sub (lo := p) (hi := l.length) (by omega) (by omega)
            rwa [List.take_of_length_le (by rw [hlen]; omega)] at h2
          have hsubF : RSl byteEnc 1 w [] (subSl v p (p + firstF 1 (l.drop p)) 1) (fieldAt l p) := by
            have h2 := hr.sub (lo := p) (hi := p + firstF 1 (l.drop p)) (by omega) (by omega)
            rwa [show p + firstF 1 (l.drop p) - p = firstF 1 (l.drop p) by omega] at h2
          obtain ⟨A3, c3, hv3, hc3, hA3⟩ := hsubD.shape
          have hsubD2 := hsubD
          rw [hv3] at hsubD2
          refine JC.skip ?_
          refine JC.blk ?_
          refine JC.rs ?_
          refine Seq.p rfl Ev.move ?_
          refine Seq.p rfl Ev.move ?_
          refine Seq.p rfl Ev.move ?_
          refine Seq.p rfl (Ev.cut sl.sl_uint8 (hr := hr.r) (l := p) (h := l.length) (hlo := ⟨_, (by repeat (first | exact Look.here | apply Look.there (hne := rfl) | exact Look.const | apply Look.mix rfl | exact Look.arg0 | apply Look.args | exact Look.func))⟩) (hhi := rfl)) ?_
          rw [hv3]
          refine Seq.callP (v := .int .i64 (firstF 1 (l.drop p) : Int)) rfl (fun w' hw => by have h2 := textIndexByte (hsubD2.up hw) (by intro h0; rw [h0] at hlen; simp at hlen; omega) (isBytes_drop hB); rwa [if_pos (by omega)] at h2) ?_
          refine Seq.p rfl (Ev.addN (m := p) (c := firstF 1 (l.drop p))) ?_
          refine Seq.p rfl Ev.assign ?_
          refine Seq.nil ?_
          refine JC.seq ?_
          refine JC.rs ?_
          refine Seq.p rfl Ev.move ?_
          refine Seq.p rfl Ev.move ?_
          refine Seq.p rfl Ev.move ?_
          refine Seq.p rfl (Ev.cut sl.sl_uint8 (hr := hr.r) (l := p) (h := p + firstF 1 (l.drop p)) (hlo := ⟨_, (by repeat (first | exact Look.here | apply Look.there (hne := rfl) | exact Look.const | apply Look.mix rfl | exact Look.arg0 | apply Look.args | exact Look.func))⟩) (hhi := ⟨_, (by repeat (first | exact Look.here | apply Look.there (hne := rfl) | exact Look.const | apply Look.mix rfl | exact Look.arg0 | apply Look.args | exact Look.func))⟩)) ?_
          refine Seq.p rfl (Ev.strOf (l := fieldAt l p) sl.sl_uint8 it.uint8 st.string (hr := hsubF.r)) ?_
          refine Seq.p rfl Ev.move ?_
          refine Seq.p rfl Ev.move ?_
          refine Seq.p rfl Ev.eq ?_
          rw [show decide ((p : Int) = (f : Int)) = decide (p = f) by rw [decide_eq_decide]; omega]
          refine Seq.call rfl (fun w' hw => textTake (isBytes_take (isBytes_drop hB)) (by omega) hx hL (hw.part (Part.here (Part.here (Part.nil _))))) (F := [lineC b2 ⟨#[]⟩ (.slice none 0 0) 0 0, nilC]) (List.Perm.refl _) ?_
          have hxx := takeF_len (F := fieldAt l p) (first := decide (p = f)) (kind := kind) hx
          obtain ⟨e1, kind1, xs1, htk⟩ : ∃ a b c, takeF (fieldAt l p) (decide (p = f)) kind xs = (a, b, c) := ⟨_, _, _, rfl⟩
          rw [htk] at hxx ⊢
          rintro _ _ ⟨A1, c1, rfl, rfl⟩
          simp only [List.cons_append, List.nil_append] at hxx ⊢
          refine Seq.p rfl Ev.assign ?_
          refine Seq.nil ?_
          refine JC.rs ?_
          refine Seq.p rfl Ev.move ?_
          refine Seq.p rfl Ev.ne ?_
          refine Seq.nil ?_
          first | refine JC.c (ht := fun c79 => ?_) (hf := fun c79 => ?_) | refine JC.cb (ht := fun c79 => ?_) (hf := fun c79 => ?_)
          · -- then_t79
            refine JC.rs ?_
            refine Seq.p rfl Ev.move ?_
            refine Seq.p rfl (Ev.faB fd.text_line_2) ?_
            refine Seq.p rfl (Ev.ldB sc.int) ?_
            refine Seq.p rfl (Ev.buildN [_, _, _, _] pl.text_line z.text_line) ?_
            refine Seq.p rfl Ev.move ?_
            refine Seq.storeN [_, _, _, _] sz.text_line (k := ?_)
            refine Seq.p rfl Ev.assign ?_
            refine Seq.nil ?_
            refine JC.ret ?_
            -- return 3
            show retQ _ _ _ _ _ _ _ _
            refine retB2 ag.text_line (H' := [nilC]) (hp := (by repeat (first | exact Part.refl _ | exact Part.nil _ | apply Part.here | apply Part.skip))) (hpost := ?_)
            rw [hrd, ← hq, partsF_bad hp htk c79]
            exact ⟨none, 0, by unfold lineA partA; simp only; rw [if_neg c79]; rfl, rfl⟩
          · -- else_t79
            obtain rfl : e1 = 0 := Classical.not_not.1 c79
            rw [partsF_step hp htk] at hq
            refine JC.skip ?_
            refine JC.reg ?_
            refine Seq.p rfl Ev.move ?_
            refine Seq.p rfl (by first | exact Ev.inc | exact Ev.add) ?_
            refine Seq.p rfl Ev.assign ?_
            refine Seq.nil ?_
            exact ⟨p + firstF 1 (l.drop p) + 1, _, Part.refl _, ⟨kind1, A1, c1, xs1, Has.mk (by repeat (first | refine Off.upd ?_ rfl | exact Off.mix | refine Off.mix2 ?_ rfl | exact Off.refl)) (allLook_cons (by repeat (first | exact Look.here | apply Look.there (hne := rfl) | exact Look.const | apply Look.mix rfl | exact Look.arg0 | apply Look.args | exact Look.func)) allLook_nil), rfl, by omega, by omega, hxx, hq⟩, by omega⟩
        · -- else_t62
          rw [partsF_end (by omega)] at hq
          refine JC.exit ?_ -- 1
          refine JC.rs ?_
          refine Seq.p rfl (Ev.ldBA ag.text_line) ?_
          refine Seq.storeN [_, _, _, _] sz.text_line (k := ?_)
          refine Seq.p rfl Ev.assign ?_
          refine Seq.nil ?_
          refine JC.ret ?_
          -- return 4
          show retQ _ _ _ _ _ _ _ _
          refine retB2 ag.text_line (H' := [tagsC (.slice A xs.length c) xs]) (hp := (by repeat (first | exact Part.refl _ | exact Part.nil _ | apply Part.here | apply Part.skip))) (hpost := ?_)
          rw [hrd, ← hq]
          exact ⟨A, c, rfl, rfl⟩
set_option maxHeartbeats 1000000 in
set_option maxRecDepth 100000 in
theorem textDecode {w : World} {v : Value} {l : List Int} (hr : RSl byteEnc 1 w [] v l) (hB : isBytes l) (hl : l.length ≤ 281474976710656) (hL : Laid w) :
    Spec Go.Proofs.Tryd.prog 17 #[v] w [] (fun u H' => ∃ A c, u = .tuple #[.string (readF l).kind, .slice A (readF l).tags.length c, .int .i64 (readF l).place, .int .i64 (readF l).why] ∧ H' = [tagsC (.slice A (readF l).tags.length c) (readF l).tags]) := by
  refine Spec.enter (fn := Go.Proofs.Tryd.f17) (n := 24) [v] Go.Proofs.Tryd.func17 (by kernel_rfl) rfl Go.Proofs.Tryd.ntmps17 Go.Proofs.Tryd.results17 rfl (Own.nil _) ?_
  refine JC.re (fun w h => h.nilOwn 30 2) ?_
  refine JC.rs ?_
  refine Seq.p rfl Ev.assign ?_
  refine Seq.p rfl Ev.assign ?_
  refine Seq.p rfl Ev.assign ?_
  refine Seq.p rfl Ev.assign ?_
  refine Seq.nil ?_
  refine JC.rs ?_
  refine Seq.p rfl Ev.move ?_
  refine Seq.call rfl (fun w' hw => textRead (hr.up hw) hB hl (hL.upd hw)) (F := _) (by exact List.Perm.refl _) ?_
  rintro _ _ ⟨A1, c1, rfl, rfl⟩
  simp only [lineA]
  refine Seq.p rfl Ev.move ?_
  refine Seq.p rfl Ev.extract ?_
  refine Seq.p rfl Ev.extract ?_
  refine Seq.alloc (cs := [_, _, _, _]) (hz := z.text_line) (k := ?_); intro b6
  refine Seq.storeN [_, _, _, _] sz.text_line (k := ?_)
  refine Seq.p rfl Ev.assign ?_
  refine Seq.nil ?_
  refine JC.seq ?_
  refine JC.rs ?_
  refine Seq.p rfl Ev.move ?_
  refine Seq.p rfl Ev.ne ?_
  refine Seq.nil ?_
  first | refine JC.c (ht := fun c14 => ?_) (hf := fun c14 => ?_) | refine JC.cb (ht := fun c14 => ?_) (hf := fun c14 => ?_)
  · -- then_t14
    refine JC.qs mixed (by kernel_rfl) ?_
    refine Qui.p rfl (Ev.faB fd.text_line_3) ?_
    refine Qui.p rfl (Ev.ldB sc.int) ?_
    refine Qui.p rfl Ev.move ?_
    refine Qui.p rfl Ev.assign ?_
    refine Qui.p rfl Ev.assign ?_
    refine Qui.p rfl Ev.assign ?_
    refine Qui.p rfl Ev.assign ?_
    refine Qui.nil ?_
    refine JC.ret ?_
    -- return 0
    show retQ _ _ _ _ _ _ _ _
    refine retI (RVs.t (hs := (RVs.t (hs := (RVs.t (hs := (RVs.t (hs := RVs.nil)))))))) (H' := [nilC]) (by repeat (first | exact Part.refl _ | exact Part.nil _ | apply Part.here | apply Part.skip)) ?_
    have h1 := readF_bad_form c14
    rw [h1.1, h1.2]
    exact ⟨none, 0, by rw [if_neg c14]; rfl, rfl⟩
  · -- else_t14
    refine JC.skip ?_
    refine JC.qs mixed (by kernel_rfl) ?_
    refine Qui.p rfl (Ev.faB fd.text_line_0) ?_
    refine Qui.p rfl (Ev.ldB sc.string) ?_
    refine Qui.p rfl (Ev.faB fd.text_line_1) ?_
    refine Qui.p rfl (Ev.ldB sc.sl_api_Tag) ?_
    refine Qui.p rfl (Ev.faB fd.text_line_2) ?_
    refine Qui.p rfl (Ev.ldB sc.int) ?_
    refine Qui.p rfl Ev.assign ?_
    refine Qui.p rfl Ev.assign ?_
    refine Qui.p rfl Ev.assign ?_
    refine Qui.p rfl Ev.assign ?_
    refine Qui.nil ?_
    refine JC.ret ?_
    -- return 1
    show retQ _ _ _ _ _ _ _ _
    refine retI (RVs.t (hs := (RVs.t (hs := (RVs.t (hs := (RVs.t (hs := RVs.nil)))))))) (H' := [tagsC (.slice A1 (readF l).tags.length c1) (readF l).tags]) (by repeat (first | exact Part.refl _ | exact Part.nil _ | apply Part.here | apply Part.skip)) ?_
    have h1 := Classical.not_not.1 c14
    rw [readF_ok_place h1, h1]
    exact ⟨A1, c1, rfl, rfl⟩
end Go.Rx
/- What is lent to a call, whether it stayed, and what writes over it. -/
namespace Go.Rx
open Go Go.RowKit Go.Lib Go.Proofs.YtcggppjpnepoiaaDoor
set_option linter.unusedVariables false
set_option linter.unusedSimpArgs false
abbrev bytesC (v : Value) (l : List Int) : Chunk := .own 5 1 v l.length (l.flatMap byteEnc)
theorem bytesC_append (v : Value) (l m : List Int) (j : Nat) (hj : m.length = j) : bytesC v (l ++ m) = .own 5 1 v (l.length + j) (l.flatMap byteEnc ++ m.flatMap byteEnc) := by
  subst hj
  unfold bytesC
  rw [List.length_append, List.flatMap_append]
def markN (i : Nat) : List Int := (List.range i).map fun j => ((171 + j : Nat) : Int)
theorem markN_len (i : Nat) : (markN i).length = i := by simp [markN]
theorem markN_succ (i : Nat) : markN (i + 1) = markN i ++ [((171 + i : Nat) : Int)] := by simp [markN, List.range_succ]
theorem markN_get {i j : Nat} (h : j < i) : (markN i)[j]! = ((171 + j : Nat) : Int) := by
  rw [getElem!_pos _ j (by rw [markN_len]; exact h)]
  simp [markN]
set_option maxHeartbeats 1000000 in
set_option maxRecDepth 100000 in
theorem lawLent {w : World} {v : Value} {l : List Int} (hr : RSl byteEnc 1 w [] v l) (hl : l.length ≤ 140737488351232) :
    Spec Go.Proofs.Tryd.prog 16 #[v] w [] (fun u H' => ∃ A c, u = .tuple #[subSl (.slice A (l.length + 32) c) 0 l.length 1, .slice A (l.length + 32) c] ∧ H' = [bytesC (.slice A (l.length + 32) c) (l ++ markN 32)]) := by
  refine Spec.enter (fn := Go.Proofs.Tryd.f16) (n := 28) [v] Go.Proofs.Tryd.func16 (by kernel_rfl) rfl Go.Proofs.Tryd.ntmps16 Go.Proofs.Tryd.results16 rfl (Own.nil _) ?_
  refine JC.rs ?_
  refine Seq.p rfl Ev.assign ?_
  refine Seq.p rfl Ev.assign ?_
  refine Seq.nil ?_
  refine JC.rs ?_
  refine Seq.p rfl Ev.move ?_
  refine Seq.p rfl (Ev.lenSl sl.sl_uint8 (hr := hr.r)) ?_
  refine Seq.p rfl (Ev.addN (m := l.length) (c := 32)) ?_
  refine Seq.mkSl0 (hsl := sl.sl_uint8) (he := el.uint8) (c := l.length + 32) (kk := ?_); intro b9
  refine Seq.p rfl Ev.assign ?_
  refine Seq.nil ?_
  refine JC.rs ?_
  refine Seq.p rfl Ev.move ?_
  refine Seq.p rfl Ev.move ?_
  refine Seq.append (hsl := sl.sl_uint8) (he := el.uint8) (hsrc := fun w' hw => Src.rsl sl.sl_uint8 (hr.up hw) (by omega) byteOne) (k := ?_); intro A12 c12
  rw [Nat.zero_add l.length, List.nil_append]
  refine Seq.p rfl Ev.assign ?_
  refine Seq.nil ?_
  refine JC.seq ?_
  refine JC.rs ?_
  refine Seq.p rfl Ev.assign ?_
  refine Seq.nil ?_
  refine JC.blk ?_
  refine JC.loop (α := Nat) (I := fun i e1 H1 => ∃ A c, Has [4, 5, 13, 14, 15, 16, 17, 18, 19, 20, 21, 22] [(4, .slice A (l.length + i) c), (5, .int .i64 (i : Int))] _ e1 ∧ H1 = [bytesC (.slice A (l.length + i) c) (l ++ markN i)] ∧ i ≤ 32) (μ := fun i => 32 - i) 0 ⟨A12, c12, Has.mk Off.refl (allLook_cons (by repeat (first | exact Look.here | apply Look.there (hne := rfl) | exact Look.const | apply Look.mix rfl | exact Look.arg0 | apply Look.args | exact Look.func)) (allLook_cons (by repeat (first | exact Look.here | apply Look.there (hne := rfl) | exact Look.const | apply Look.mix rfl | exact Look.arg0 | apply Look.args | exact Look.func)) allLook_nil)), by simp [markN, bytesC], by omega⟩ ?_
  rintro i _ _ ⟨A, c, ⟨u, rfl⟩, rfl, hi⟩; dsimp only [setL]
  have hm := markN_len i
  rw [show bytesC (.slice A (l.length + i) c) (l ++ markN i) = .own 5 1 (.slice A (l.length + i) c) (l.length + i) ((l ++ markN i).flatMap byteEnc) by unfold bytesC; rw [List.length_append, hm]]
  refine JC.seq ?_
  refine JC.rs ?_
  refine Seq.p rfl Ev.move ?_
  refine Seq.p rfl Ev.lt ?_
  refine Seq.nil ?_
  first | refine JC.c (ht := fun c14 => ?_) (hf := fun c14 => ?_) | refine JC.cb (ht := fun c14 => ?_) (hf := fun c14 => ?_)
  · -- then_t14
    refine JC.skip ?_
    refine JC.seq ?_
    refine JC.blk ?_
    refine JC.reg ?_
    refine Seq.p rfl Ev.move ?_
    refine Seq.p rfl Ev.move ?_
    refine Seq.p rfl (Ev.addN (m := 171) (c := i)) ?_
    refine Seq.p rfl (Ev.convU8 it.int it.uint8) ?_
    refine Seq.buildSlN [_] (hsl := sl.sl_uint8) (hz := z.uint8) (k := ?_); intro b21
    refine Seq.append (hsl := sl.sl_uint8) (he := el.uint8) (hsrc := (fun w' hw => Src.box (hl := by rfl) (hc := fun q u hu => hu) sl.sl_uint8 At.z hw)) (k := ?_); intro A22 c22
    refine Seq.p rfl Ev.assign ?_
    refine Seq.nil ?_
    refine JC.reg ?_
    refine Seq.p rfl Ev.move ?_
    refine Seq.p rfl (by first | exact Ev.inc | exact Ev.add) ?_
    refine Seq.p rfl Ev.assign ?_
    refine Seq.nil ?_
    refine ⟨i + 1, _, Part.skip (Part.refl _), ⟨A22, c22, Has.mk (by repeat (first | refine Off.upd ?_ rfl | exact Off.mix | refine Off.mix2 ?_ rfl | exact Off.refl)) (allLook_cons (by repeat (first | exact Look.here | apply Look.there (hne := rfl) | exact Look.const | apply Look.mix rfl | exact Look.arg0 | apply Look.args | exact Look.func)) (allLook_cons (by repeat (first | exact Look.here | apply Look.there (hne := rfl) | exact Look.const | apply Look.mix rfl | exact Look.arg0 | apply Look.args | exact Look.func)) allLook_nil)), ?_, by omega⟩, by omega⟩
    unfold bytesC
    rw [markN_succ, ← List.append_assoc, List.length_append, List.length_append, hm, List.flatMap_append (xs := l ++ markN i)]
    rfl
  · -- else_t14
    obtain rfl : i = 32 := by omega
    refine JC.exit ?_ -- 0
    refine JC.rs ?_
    refine Seq.p rfl Ev.move ?_
    refine Seq.p rfl Ev.move ?_
    refine Seq.p rfl (Ev.lenSl sl.sl_uint8 (hr := hr.r)) ?_
    refine Seq.p rfl (Ev.cut (α := Int) (enc := byteEnc) (xs := l ++ markN 32) sl.sl_uint8 (hr := RAt.own (hm := by rw [List.length_append, hm]) (hs := by rw [List.length_append, hm]; omega)) (l := 0) (h := l.length) (hlo := rfl) (hhi := ⟨_, (by repeat (first | exact Look.here | apply Look.there (hne := rfl) | exact Look.const | apply Look.mix rfl | exact Look.arg0 | apply Look.args | exact Look.func))⟩) (h2 := by rw [List.length_append]; omega)) ?_
    refine Seq.p rfl Ev.move ?_
    refine Seq.p rfl Ev.assign ?_
    refine Seq.p rfl Ev.assign ?_
    refine Seq.nil ?_
    refine JC.ret ?_
    -- return 0
    show retQ _ _ _ _ _ _ _ _
    refine ret2 (hp := Part.refl _) (hpost := ?_)
    exact ⟨A, c, rfl, by unfold bytesC; rw [List.length_append, hm]⟩
set_option maxHeartbeats 2000000 in
set_option maxRecDepth 100000 in
theorem lawKept {w : World} {va v : Value} {l : List Int} (ha : RSl byteEnc 1 w [] va (l ++ markN 32)) (hr : RSl byteEnc 1 w [] v l) (hl : l.length ≤ 140737488351232) :
    Spec Go.Proofs.Tryd.prog 19 #[va, v] w [] (fun u _ => u = .bool true) := by
  have hal : (l ++ markN 32).length = l.length + 32 := by rw [List.length_append, markN_len]
  have hg1 : ∀ i, i < l.length → (l ++ markN 32)[i]! = l[i]! := fun i h => by
    rw [getElem!_pos _ i (by omega), getElem!_pos l i h, List.getElem_append_left h]
  have hg2 : ∀ i, l.length ≤ i → i < l.length + 32 → (l ++ markN 32)[i]! = ((171 + (i - l.length) : Nat) : Int) := fun i h h2 => by
    rw [getElem!_pos _ i (by omega), List.getElem_append_right h, ← markN_get (i := 32) (by omega), getElem!_pos (markN 32) _ (by rw [markN_len]; omega)]
  generalize hxs : l ++ markN 32 = xs at ha hal hg1 hg2
  refine Spec.enter (fn := Go.Proofs.Tryd.f19) (n := 46) [va, v] Go.Proofs.Tryd.func19 (by kernel_rfl) rfl Go.Proofs.Tryd.ntmps19 Go.Proofs.Tryd.results19 rfl (Own.nil _) ?_
  refine JC.rs ?_
  refine Seq.p rfl Ev.assign ?_
  refine Seq.nil ?_
  refine JC.seq ?_
  refine JC.rs ?_
  refine Seq.p rfl Ev.assign ?_
  refine Seq.nil ?_
  refine JC.blk ?_
  refine JC.loop (α := Nat) (I := fun i e1 H1 => Has [4, 5, 6, 7, 8, 9, 10, 11, 12, 13, 14, 15, 16, 17, 18, 19, 20, 21, 22, 23, 24, 25, 26, 27, 28, 29, 30, 31, 32, 33, 34, 35, 36, 37, 38, 39, 40, 41, 42, 43, 44, 45] [(5, .int .i64 (i : Int))] _ e1 ∧ H1 = _ ∧ i ≤ xs.length) (μ := fun i => xs.length - i) 0 ⟨Has.mk Off.refl (allLook_cons (by repeat (first | exact Look.here | apply Look.there (hne := rfl) | exact Look.const | apply Look.mix rfl | exact Look.arg0 | apply Look.args | exact Look.func)) allLook_nil), rfl, by omega⟩ ?_
  rintro i _ _ ⟨⟨u, rfl⟩, rfl, hi⟩; dsimp only [setL]
  refine JC.seq ?_
  refine JC.rs ?_
  refine Seq.p rfl Ev.move ?_
  refine Seq.p rfl Ev.move ?_
  refine Seq.p rfl (Ev.lenSl sl.sl_uint8 (hr := ha.r)) ?_
  refine Seq.p rfl Ev.lt ?_
  refine Seq.nil ?_
  first | refine JC.c (ht := fun c9 => ?_) (hf := fun c9 => ?_) | refine JC.cb (ht := fun c9 => ?_) (hf := fun c9 => ?_)
  · -- then_t9
    have hi2 : i < xs.length := by omega
    refine JC.skip ?_
    refine JC.seq ?_
    refine JC.blk ?_
    refine JC.qs mixed (by kernel_rfl) ?_
    refine Qui.p rfl Ev.move ?_
    refine Qui.p rfl Ev.move ?_
    refine Qui.p rfl (Ev.lenSl sl.sl_uint8 (hr := hr.r)) ?_
    refine Qui.p rfl Ev.lt ?_
    refine Qui.p rfl Ev.move ?_
    refine Qui.andG (D := [16, 17, 18, 19, 20, 21, 22, 23, 24, 25, 26]) (d := 16) (t := 26) (k := 10) (hn := fun h16 => ?_) (hx := ?_)
    · repeat (first | refine Qui.gn rfl rfl rfl rfl ?_ | refine Qui.gu rfl rfl rfl ?_)
      refine Qui.p rfl Ev.pickF ?_
      exact Qui.nil ⟨(by repeat (first | with_reducible exact Off.refl | refine Off.upd ?_ rfl | exact Off.mix | refine Off.mix2 ?_ rfl)), Look.here⟩
    apply Exists.intro
    refine ⟨fun h16 => ?_, fun u26 => ?_⟩
    · try simp only [decide_eq_true_eq, decide_eq_false_iff_not, Bool.and_eq_true, Bool.or_eq_true, Bool.not_eq_true', Bool.not_eq_false', Bool.or_eq_false_iff, Bool.and_eq_false_imp] at h16
      refine Qui.gy rfl rfl rfl ?_
      refine Qui.p rfl Ev.move ?_
      refine Qui.gy rfl rfl rfl ?_
      refine Qui.p rfl Ev.move ?_
      refine Qui.gy rfl rfl rfl ?_
      refine Qui.p rfl (Ev.iaN sl.sl_uint8 (hr := ha.r)) ?_
      refine Qui.gy rfl rfl rfl ?_
      refine Qui.p rfl (Ev.ldE1 sc.uint8 (hr := ha.r)) ?_
      refine Qui.gy rfl rfl rfl ?_
      refine Qui.p rfl Ev.move ?_
      refine Qui.gy rfl rfl rfl ?_
      refine Qui.p rfl Ev.move ?_
      refine Qui.gy rfl rfl rfl ?_
      refine Qui.p rfl (Ev.iaN sl.sl_uint8 (hr := hr.r)) ?_
      refine Qui.gy rfl rfl rfl ?_
      refine Qui.p rfl (Ev.ldE1 sc.uint8 (hr := hr.r)) ?_
      refine Qui.gy rfl rfl rfl ?_
      refine Qui.p rfl Ev.ne ?_
      refine Qui.p rfl Ev.pickT ?_
      exact Qui.nil ⟨(by repeat (first | with_reducible exact Off.refl | refine Off.upd ?_ rfl | exact Off.mix | refine Off.mix2 ?_ rfl)), Look.here⟩
    refine Qui.p rfl Ev.move ?_
    refine Qui.orG (D := [27, 28, 29, 30, 31, 32, 33, 34, 35, 36, 37, 38, 39, 40, 41, 42, 43, 44, 45]) (d := 27) (t := 45) (k := 18) (hn := fun h27 => ?_) (hx := ?_)
    · repeat (first | refine Qui.gn rfl rfl rfl rfl ?_ | refine Qui.gu rfl rfl rfl ?_)
      refine Qui.p rfl Ev.pickT ?_
      exact Qui.nil ⟨(by repeat (first | with_reducible exact Off.refl | refine Off.upd ?_ rfl | exact Off.mix | refine Off.mix2 ?_ rfl)), Look.here⟩
    apply Exists.intro
    refine ⟨fun h27 => ?_, fun u45 => ?_⟩
    · try simp only [decide_eq_true_eq, decide_eq_false_iff_not, Bool.and_eq_true, Bool.or_eq_true, Bool.not_eq_true', Bool.not_eq_false', Bool.or_eq_false_iff, Bool.and_eq_false_imp] at h27
      refine Qui.gy rfl rfl rfl ?_
      refine Qui.p rfl Ev.move ?_
      refine Qui.gy rfl rfl rfl ?_
      refine Qui.p rfl Ev.move ?_
      refine Qui.gy rfl rfl rfl ?_
      refine Qui.p rfl (Ev.lenSl sl.sl_uint8 (hr := hr.r)) ?_
      refine Qui.gy rfl rfl rfl ?_
      refine Qui.p rfl Ev.ge ?_
      refine Qui.gy rfl rfl rfl ?_
      refine Qui.p rfl Ev.move ?_
      refine Qui.andG (D := [32, 33, 34, 35, 36, 37, 38, 39, 40, 41, 42, 43, 44]) (d := 32) (t := 44) (k := 12) (hn := fun h32 => ?_) (hx := ?_)
      · repeat (first | refine Qui.gn rfl rfl rfl rfl ?_ | refine Qui.gu rfl rfl rfl ?_)
        refine Qui.gy rfl rfl rfl ?_
        refine Qui.p rfl Ev.pickF ?_
        exact Qui.nil ⟨(by repeat (first | with_reducible exact Off.refl | refine Off.upd ?_ rfl | exact Off.mix | refine Off.mix2 ?_ rfl)), Look.here⟩
      apply Exists.intro
      refine ⟨fun h32 => ?_, fun u44 => ?_⟩
      · try simp only [decide_eq_true_eq, decide_eq_false_iff_not, Bool.and_eq_true, Bool.or_eq_true, Bool.not_eq_true', Bool.not_eq_false', Bool.or_eq_false_iff, Bool.and_eq_false_imp] at h32
        refine Qui.gy rfl rfl rfl ?_
        refine Qui.p rfl Ev.move ?_
        refine Qui.gy rfl rfl rfl ?_
        refine Qui.p rfl Ev.move ?_
        refine Qui.gy rfl rfl rfl ?_
        refine Qui.p rfl (Ev.iaN sl.sl_uint8 (hr := ha.r)) ?_
        refine Qui.gy rfl rfl rfl ?_
        refine Qui.p rfl (Ev.ldE1 sc.uint8 (hr := ha.r)) ?_
        refine Qui.gy rfl rfl rfl ?_
        refine Qui.p rfl Ev.move ?_
        refine Qui.gy rfl rfl rfl ?_
        refine Qui.p rfl Ev.add ?_
        refine Qui.gy rfl rfl rfl ?_
        refine Qui.p rfl Ev.move ?_
        refine Qui.gy rfl rfl rfl ?_
        refine Qui.p rfl (Ev.lenSl sl.sl_uint8 (hr := hr.r)) ?_
        refine Qui.gy rfl rfl rfl ?_
        refine Qui.p rfl Ev.sub ?_
        refine Qui.gy rfl rfl rfl ?_
        refine Qui.p rfl (Ev.convU8 it.int it.uint8) ?_
        refine Qui.gy rfl rfl rfl ?_
        refine Qui.p rfl Ev.ne ?_
        refine Qui.gy rfl rfl rfl ?_
        refine Qui.p rfl Ev.pickT ?_
        exact Qui.nil ⟨(by repeat (first | with_reducible exact Off.refl | refine Off.upd ?_ rfl | exact Off.mix | refine Off.mix2 ?_ rfl)), Look.here⟩
      refine Qui.p rfl Ev.pickF ?_
      exact Qui.nil ⟨(by repeat (first | with_reducible exact Off.refl | refine Off.upd ?_ rfl | exact Off.mix | refine Off.mix2 ?_ rfl)), Look.here⟩
    refine Qui.nil ?_
    first | refine JC.c (ht := fun c45 => ?_) (hf := fun c45 => ?_) | refine JC.cb (ht := fun c45 => ?_) (hf := fun c45 => ?_)
    · -- then_t45
      exfalso
      simp only [Bool.or_eq_true, Bool.and_eq_true, decide_eq_true_eq] at c45
      rcases c45 with ⟨h1, h2⟩ | ⟨h1, h2⟩
      · exact h2 (hg1 i (by omega))
      · exact h2 (by rw [hg2 i (by omega) (by omega)]; omega)
    · -- else_t45
      refine JC.skip ?_
      refine JC.reg ?_
      refine Seq.p rfl Ev.move ?_
      refine Seq.p rfl (by first | exact Ev.inc | exact Ev.add) ?_
      refine Seq.p rfl Ev.assign ?_
      refine Seq.nil ?_
      exact ⟨i + 1, _, Part.refl _, ⟨Has.mk (by repeat (first | refine Off.upd ?_ rfl | exact Off.mix | refine Off.mix2 ?_ rfl | exact Off.refl)) (allLook_cons (by repeat (first | exact Look.here | apply Look.there (hne := rfl) | exact Look.const | apply Look.mix rfl | exact Look.arg0 | apply Look.args | exact Look.func)) allLook_nil), rfl, by omega⟩, by omega⟩
  · -- else_t9
    refine JC.exit ?_ -- 0
    refine JC.rs ?_
    refine Seq.p rfl Ev.assign ?_
    refine Seq.nil ?_
    refine JC.ret ?_
    -- return 0
    show retQ _ _ _ _ _ _ _ _
    refine ret1 (hp := Part.nil _) (hpost := ?_)
    rfl
set_option maxHeartbeats 1000000 in
set_option maxRecDepth 100000 in
theorem lawFull {w : World} {A : Option Addr} {c : Nat} {l : List Int} {k : Int} (hl : l.length ≤ 140737488351232) (ho : Own w [bytesC (.slice A l.length c) l]) :
    Spec Go.Proofs.Tryd.prog 22 #[.slice A l.length c, .int .u8 k] w [bytesC (.slice A l.length c) l] (fun u H' => H' = []) := by
  refine Spec.enter (fn := Go.Proofs.Tryd.f22) (n := 24) [.slice A l.length c, .int .u8 k] Go.Proofs.Tryd.func22 (by kernel_rfl) rfl Go.Proofs.Tryd.ntmps22 Go.Proofs.Tryd.results22 rfl ho ?_
  refine JC.seq ?_
  refine JC.rs ?_
  refine Seq.p rfl Ev.assign ?_
  refine Seq.nil ?_
  refine JC.blk ?_
  refine JC.loop (α := Nat × List Int) (I := fun s e1 H1 => Has [4, 6, 7, 8, 9, 10, 11, 12, 13, 14, 15] [(4, .int .i64 (s.1 : Int))] _ e1 ∧ H1 = [bytesC (.slice A l.length c) s.2] ∧ s.1 ≤ l.length ∧ s.2.length = l.length) (μ := fun s => l.length - s.1) (0, l) ⟨Has.mk Off.refl (allLook_cons (by repeat (first | exact Look.here | apply Look.there (hne := rfl) | exact Look.const | apply Look.mix rfl | exact Look.arg0 | apply Look.args | exact Look.func)) allLook_nil), rfl, by omega, rfl⟩ ?_
  rintro ⟨i, l'⟩ _ _ ⟨⟨u, rfl⟩, rfl, hi, hl'⟩; dsimp only [setL]; dsimp only at hi hl'
  refine JC.seq ?_
  refine JC.rs ?_
  refine Seq.p rfl Ev.move ?_
  refine Seq.p rfl Ev.move ?_
  refine Seq.p rfl (Ev.lenSl sl.sl_uint8 (hr := RAt.own (enc := byteEnc) (xs := l'))) ?_
  refine Seq.p rfl Ev.lt ?_
  refine Seq.nil ?_
  first | refine JC.c (ht := fun c9 => ?_) (hf := fun c9 => ?_) | refine JC.cb (ht := fun c9 => ?_) (hf := fun c9 => ?_)
  · -- then_t9
    have hi2 : i < l'.length := by omega
    refine JC.skip ?_
    refine JC.seq ?_
    refine JC.blk ?_
    refine JC.reg ?_
    refine Seq.p rfl Ev.move ?_
    refine Seq.p rfl Ev.move ?_
    refine Seq.p rfl Ev.move ?_
    refine Seq.p rfl (Ev.iaN sl.sl_uint8 (hr := RAt.own (enc := byteEnc) (xs := l'))) ?_
    refine Seq.stOwn (enc := byteEnc) (xs := l') (q := i) k sz.uint8 (by decide) (h1 := byteOne) (k := ?_)
    refine Seq.nil ?_
    refine JC.reg ?_
    refine Seq.p rfl Ev.move ?_
    refine Seq.p rfl (by first | exact Ev.inc | exact Ev.add) ?_
    refine Seq.p rfl Ev.assign ?_
    refine Seq.nil ?_
    refine ⟨(i + 1, l'.set i k), _, Part.refl _, ⟨Has.mk (by repeat (first | refine Off.upd ?_ rfl | exact Off.mix | refine Off.mix2 ?_ rfl | exact Off.refl)) (allLook_cons (by repeat (first | exact Look.here | apply Look.there (hne := rfl) | exact Look.const | apply Look.mix rfl | exact Look.arg0 | apply Look.args | exact Look.func)) allLook_nil), rfl, by show i + 1 ≤ l.length; omega, by show (l'.set i k).length = _; rw [List.length_set]; exact hl'⟩, by show l.length - (i + 1) < l.length - i; omega⟩
  · -- else_t9
    refine JC.exit ?_ -- 0
    refine JC.rs ?_
    refine Seq.p rfl Ev.assign ?_
    refine Seq.nil ?_
    refine JC.blk ?_
    refine JC.loop (α := Nat) (I := fun i e1 H1 => ∃ A c zs, Has [0, 5, 16, 17, 18, 19, 20, 21, 22, 23] [(0, .slice A (l.length + i) c), (5, .int .i64 (i : Int))] _ e1 ∧ H1 = [.own 5 1 (.slice A (l.length + i) c) (l.length + i) zs] ∧ i ≤ 90) (μ := fun i => 90 - i) 0 ⟨A, c, l'.flatMap byteEnc, Has.mk Off.refl (allLook_cons (by repeat (first | exact Look.here | apply Look.there (hne := rfl) | exact Look.const | apply Look.mix rfl | exact Look.arg0 | apply Look.args | exact Look.func)) (allLook_cons (by repeat (first | exact Look.here | apply Look.there (hne := rfl) | exact Look.const | apply Look.mix rfl | exact Look.arg0 | apply Look.args | exact Look.func)) allLook_nil)), by unfold bytesC; rw [hl']; rfl, by omega⟩ ?_
    rintro i2 _ _ ⟨A2, c2, zs, ⟨u2, rfl⟩, rfl, hi3⟩; dsimp only [setL]
    refine JC.seq ?_
    refine JC.rs ?_
    refine Seq.p rfl Ev.move ?_
    refine Seq.p rfl Ev.lt ?_
    refine Seq.nil ?_
    first | refine JC.c (ht := fun c17 => ?_) (hf := fun c17 => ?_) | refine JC.cb (ht := fun c17 => ?_) (hf := fun c17 => ?_)
    · -- then_t17
      refine JC.skip ?_
      refine JC.seq ?_
      refine JC.blk ?_
      refine JC.reg ?_
      refine Seq.p rfl Ev.move ?_
      refine Seq.p rfl Ev.move ?_
      refine Seq.buildSlN [_] (hsl := sl.sl_uint8) (hz := z.uint8) (k := ?_); intro b22
      refine Seq.append (hsl := sl.sl_uint8) (he := el.uint8) (hsrc := (fun w' hw => Src.box (hl := by rfl) (hc := fun q u hu => hu) sl.sl_uint8 At.z hw)) (k := ?_); intro A23 c23
      refine Seq.p rfl Ev.assign ?_
      refine Seq.nil ?_
      refine JC.reg ?_
      refine Seq.p rfl Ev.move ?_
      refine Seq.p rfl (by first | exact Ev.inc | exact Ev.add) ?_
      refine Seq.p rfl Ev.assign ?_
      refine Seq.nil ?_
      exact ⟨i2 + 1, _, Part.skip (Part.refl _), ⟨A23, c23, _, Has.mk (by repeat (first | refine Off.upd ?_ rfl | exact Off.mix | refine Off.mix2 ?_ rfl | exact Off.refl)) (allLook_cons (by repeat (first | exact Look.here | apply Look.there (hne := rfl) | exact Look.const | apply Look.mix rfl | exact Look.arg0 | apply Look.args | exact Look.func)) (allLook_cons (by repeat (first | exact Look.here | apply Look.there (hne := rfl) | exact Look.const | apply Look.mix rfl | exact Look.arg0 | apply Look.args | exact Look.func)) allLook_nil)), rfl, by omega⟩, by omega⟩
    · -- else_t17
      refine JC.exit ?_ -- 2
      -- return 0
      first | show retQ _ _ _ _ _ .normal _ _ | (simp only [thenQ, blockQ, ↓reduceIte]; show retQ _ _ _ _ _ .normal _ _)
      exact ⟨[], [], RVs.nil, Part.nil _, rfl⟩
      skip
end Go.Rx
