/- The last field's digits, by the program and by the document; what trails. -/
import Derived.Test.YtcggppjpnepoiaaDoorP3
namespace Go.Rx
open Go Go.RowKit Go.Lib Go.Proofs.YtcggppjpnepoiaaDoor
set_option linter.unusedVariables false
set_option linter.unusedSimpArgs false
def threeL (n : Int) : List Int := [48 + n / 100, 48 + n / 10 % 10, 48 + n % 10]
def lastL (l : List Int) : List Int := [49, 48, 61] ++ threeL (sumB l) ++ [1]
theorem dec_last {m : Nat} (h : m ≤ 255) : decDigits (1000 + m) = [49, UInt8.ofNat (48 + m / 100), UInt8.ofNat (48 + m / 10 % 10), UInt8.ofNat (48 + m % 10)] := by
  have h1 : decDigits ((1000 + m) / 10 / 10) = [UInt8.ofNat (48 + (1000 + m) / 10 / 10 / 10), UInt8.ofNat (48 + (1000 + m) / 10 / 10 % 10)] := decDigits_two (by omega) (by omega)
  have h2 : decDigits ((1000 + m) / 10) = decDigits ((1000 + m) / 10 / 10) ++ [UInt8.ofNat (48 + (1000 + m) / 10 % 10)] := by rw [decDigits, dif_neg (by omega)]
  have h3 : decDigits (1000 + m) = decDigits ((1000 + m) / 10) ++ [UInt8.ofNat (48 + (1000 + m) % 10)] := by rw [decDigits, dif_neg (by omega)]
  rw [h3, h2, h1]
  have e1 : 48 + (1000 + m) / 10 / 10 / 10 = 49 := by omega
  have e2 : (1000 + m) / 10 / 10 % 10 = m / 100 := by omega
  have e3 : (1000 + m) / 10 % 10 = m / 10 % 10 := by omega
  have e4 : (1000 + m) % 10 = m % 10 := by omega
  rw [e1, e2, e3, e4]
  rfl
theorem itoa_last {n : Int} (h : 0 ≤ n ∧ n ≤ 255) : itoa (1000 + n) = (49 :: threeL n).map fun n => UInt8.ofNat n.toNat := by
  obtain ⟨m, rfl⟩ : ∃ m : Nat, n = m := ⟨n.toNat, by omega⟩
  have e : (1000 + (m : Int)) = ((1000 + m : Nat) : Int) := by omega
  rw [e, itoa_nonneg, dec_last (by omega)]
  unfold threeL
  have e1 : (48 + (m : Int) / 100).toNat = 48 + m / 100 := by omega
  have e2 : (48 + (m : Int) / 10 % 10).toNat = 48 + m / 10 % 10 := by omega
  have e3 : (48 + (m : Int) % 10).toNat = 48 + m % 10 := by omega
  simp only [List.map_cons, List.map_nil, e1, e2, e3]
  rfl
theorem strOf_size (l : List Int) : (strOf l).size = l.length := by
  have h3 : (strOf l).size = (strOf l).data.toList.length := by simp
  rw [h3, strOf_toList, List.length_map]
theorem ba_ext {a b : ByteArray} (h : a.data.toList = b.data.toList) : a = b := by
  apply ByteArray.ext
  exact Array.ext' h
theorem strOf_mk (l : List Int) : (⟨(l.map fun n => UInt8.ofNat n.toNat).toArray⟩ : ByteArray) = strOf l := ba_ext (by rw [strOf_toList])
theorem strOf_app (a b : List Int) : strOf (a ++ b) = strOf a ++ strOf b := ba_ext (by rw [strOf_toList, List.map_append]; simp [strOf_toList])
theorem strOf_cut (l : List Int) (i j : Nat) : (strOf l).extract i j = strOf ((l.take j).drop i) := ba_ext (by
  rw [strOf_toList, ByteArray.data_extract, Array.toList_extract, List.extract_eq_take_drop, strOf_toList, List.map_drop, List.map_take, List.drop_take])
theorem textItoa {w : World} {n : Int} (h0 : -9223372036854775808 ≤ n) (h1 : n ≤ 9223372036854775807) (hL : Laid w) : Go.Rx.Spec Go.Proofs.Tryd.prog 41 #[.int .i64 n] w [] (fun u _ => u = .string ⟨(itoa n).toArray⟩) :=
  spec_of_below ⟨Go.Proofs.Tryd.f41, Go.Proofs.Tryd.func41, by kernel_rfl, rfl⟩ ((Go.Proofs.Tryd.strconv_Itoa n h0 h1 w hL.tab).mono (by
    rintro e w' ⟨rfl, k, os, rfl⟩
    exact ⟨rfl, grow_below w k os⟩))
set_option maxHeartbeats 1000000 in
set_option maxRecDepth 100000 in
theorem refThree {w : World} {n : Int} (h : 0 ≤ n ∧ n ≤ 255) : Spec Go.Proofs.Tryd.prog 54 #[.int .i64 n] w [] (fun u _ => u = .string (strOf (threeL n))) := by
  refine Spec.enter (fn := Go.Proofs.Tryd.f54) (n := 18) [.int .i64 n] Go.Proofs.Tryd.func54 (by kernel_rfl) rfl Go.Proofs.Tryd.ntmps54 Go.Proofs.Tryd.results54 rfl (Own.nil _) ?_
  refine JC.rs ?_
  refine Seq.p rfl Ev.assign ?_
  refine Seq.nil ?_
  refine JC.rs ?_
  refine Seq.p rfl Ev.move ?_
  refine Seq.p rfl Ev.quo ?_
  refine Seq.p rfl Ev.add ?_
  refine Seq.p rfl (Ev.convU8 it.int it.uint8) ?_
  refine Seq.p rfl Ev.move ?_
  refine Seq.p rfl Ev.quo ?_
  refine Seq.p rfl Ev.rem ?_
  refine Seq.p rfl Ev.add ?_
  refine Seq.p rfl (Ev.convU8 it.int it.uint8) ?_
  refine Seq.p rfl Ev.move ?_
  refine Seq.p rfl Ev.rem ?_
  refine Seq.p rfl Ev.add ?_
  refine Seq.p rfl (Ev.convU8 it.int it.uint8) ?_
  refine Seq.buildSlN _ (hsl := sl.sl_uint8) (hz := z.uint8) (k := ?_); intro b16
  refine Seq.re (fun w h => Upd.boxOwn h (n := 3) (size := 1) At.z rfl (by omega)) ?_
  refine Seq.p rfl (Ev.strOf (l := threeL n) sl.sl_uint8 it.uint8 st.string (hr := RAt.own (enc := byteEnc) (xs := threeL n) (hs := by simp [threeL]))) ?_
  refine Seq.p rfl Ev.assign ?_
  refine Seq.nil ?_
  refine JC.ret ?_
  -- return 0
  show retQ _ _ _ _ _ _ _ _
  refine ret1 (hp := Part.nil _) (hpost := ?_)
  rfl
set_option maxHeartbeats 1000000 in
set_option maxRecDepth 100000 in
theorem textLast {w : World} {v : Value} {l : List Int} (hr : RSl byteEnc 1 w [] v l) (hB : isBytes l) (hL : Laid w) : Spec Go.Proofs.Tryd.prog 42 #[v] w [] (fun u _ => u = .string (strOf (lastL l))) := by
  have hs := sumB_range l
  have hi : (⟨(itoa (1000 + sumB l)).toArray⟩ : ByteArray) = strOf (49 :: threeL (sumB l)) := by rw [itoa_last hs, strOf_mk]
  refine Spec.enter (fn := Go.Proofs.Tryd.f42) (n := 12) [v] Go.Proofs.Tryd.func42 (by kernel_rfl) rfl Go.Proofs.Tryd.ntmps42 Go.Proofs.Tryd.results42 rfl (Own.nil _) ?_
  refine JC.rs ?_
  refine Seq.p rfl Ev.assign ?_
  refine Seq.nil ?_
  refine JC.rs ?_
  refine Seq.p rfl Ev.move ?_
  refine Seq.callP rfl (fun w hw => textSum (hr.up hw) hB) ?_
  refine Seq.p rfl Ev.add ?_
  refine Seq.callP rfl (fun w hw => hi ▸ textItoa (by omega) (by omega) (hL.upd hw)) ?_
  refine Seq.p rfl Ev.assign ?_
  refine Seq.nil ?_
  refine JC.rs ?_
  refine Seq.p rfl Ev.move ?_
  refine Seq.p rfl (Ev.cutStr (s := strOf (49 :: threeL (sumB l))) (l := 1) (h := 4) st.string (hlo := ⟨_, (by repeat (first | exact Look.here | apply Look.there (hne := rfl) | exact Look.const | apply Look.mix rfl | exact Look.arg0 | apply Look.args | exact Look.func))⟩) (hhi := by rw [strOf_size]; rfl) (h2 := by rw [strOf_size]; exact Nat.le_refl _)) ?_
  rw [strOf_cut, show ((49 :: threeL (sumB l)).take 4).drop 1 = threeL (sumB l) from rfl]
  refine Seq.p rfl (Ev.addStr (h := by rw [strOf_size]; show 3 + 3 ≤ _; decide)) ?_
  rw [show (⟨#[49, 48, 61]⟩ : ByteArray) = strOf [49, 48, 61] from rfl, ← strOf_app]
  refine Seq.p rfl (Ev.addStr (h := by rw [strOf_size]; show 6 + 1 ≤ _; decide)) ?_
  rw [show (⟨#[1]⟩ : ByteArray) = strOf [1] from rfl, ← strOf_app]
  refine Seq.p rfl Ev.assign ?_
  refine Seq.nil ?_
  refine JC.ret ?_
  -- return 0
  show retQ _ _ _ _ _ _ _ _
  refine ret1 (hp := Part.nil _) (hpost := ?_)
  rfl
set_option maxHeartbeats 1000000 in
set_option maxRecDepth 100000 in
theorem refBad {w : World} {a c : Int} : Spec Go.Proofs.Tryd.prog 53 #[.int .i64 a, .int .i64 c] w [] (fun u _ => u = .agg #[.string ⟨#[]⟩, .slice none 0 0, .int .i64 a, .int .i64 c, .bool false, .int .i64 0]) := by
  refine Spec.enter (fn := Go.Proofs.Tryd.f53) (n := 8) [.int .i64 a, .int .i64 c] Go.Proofs.Tryd.func53 (by kernel_rfl) rfl Go.Proofs.Tryd.ntmps53 Go.Proofs.Tryd.results53 rfl (Own.nil _) ?_
  refine JC.rs ?_
  refine Seq.alloc (cs := [_, _, _, _, _, _]) (hz := z.bourseref03_Answer) (k := ?_); intro b4
  refine Seq.nil ?_
  refine JC.rs ?_
  refine Seq.p rfl Ev.move ?_
  refine Seq.p rfl Ev.move ?_
  refine Seq.p rfl (Ev.buildN [_, _, _, _, _, _] pl.bourseref03_Answer z.bourseref03_Answer) ?_
  refine Seq.storeN [_, _, _, _, _, _] sz.bourseref03_Answer (k := ?_)
  refine Seq.nil ?_
  refine JC.ret ?_
  -- return 0
  show retQ _ _ _ _ _ _ _ _
  refine retB1 ag.bourseref03_Answer (hp := Part.nil _) (hpost := ?_)
  rfl
end Go.Rx
