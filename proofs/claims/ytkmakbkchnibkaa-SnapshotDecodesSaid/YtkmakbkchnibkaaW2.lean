/- A book out of bytes: what is read, by definition; by the document's functions. -/
import Derived.Test.YtkmakbkchnibkaaW1
namespace Go.Rx
open Go Go.RowKit
set_option linter.unusedVariables false
set_option linter.unusedSimpArgs false
def le (l : List Int) (a k : Nat) : Int := leN ((l.drop a).take k)
theorem le_range {l : List Int} (hB : isBytes l) (a : Nat) {k : Nat} (hk : k ≤ 8) : 0 ≤ le l a k ∧ le l a k ≤ 18446744073709551615 :=
  leN_small ((hB.drop a).take k) (by rw [List.length_take]; omega) hk
theorem le_range4 {l : List Int} (hB : isBytes l) (a : Nat) : 0 ≤ le l a 4 ∧ le l a 4 ≤ 4294967295 := by
  have h1 := leN_range ((hB.drop a).take 4)
  have h2 : (256 : Int) ^ ((l.drop a).take 4).length ≤ 256 ^ 4 := p256 (by rw [List.length_take]; omega)
  have h3 : (256 : Int) ^ 4 = 4294967296 := by decide
  unfold le
  omega
theorem le_range2 {l : List Int} (hB : isBytes l) (a : Nat) : 0 ≤ le l a 2 ∧ le l a 2 ≤ 65535 := by
  have h1 := leN_range ((hB.drop a).take 2)
  have h2 : (256 : Int) ^ ((l.drop a).take 2).length ≤ 256 ^ 2 := p256 (by rw [List.length_take]; omega)
  have h3 : (256 : Int) ^ 2 = 65536 := by decide
  unfold le
  omega
theorem le_one {l : List Int} {a : Nat} (h : a < l.length) : le l a 1 = l[a]! := by
  unfold le
  rw [List.drop_eq_getElem_cons h, getElem!_pos l a h]
  show l[a] + 256 * 0 = _
  omega
def orderAt (l : List Int) (p : Nat) : Resting := ⟨le l p 8, le l (p + 8) 4, le l (p + 12) 1, le l (p + 13) 4, le l (p + 17) 4, le l (p + 21) 4, le l (p + 25) 4⟩
def ordersAt (l : List Int) (p n : Nat) : List Resting := (List.range n).map fun i => orderAt l (p + 29 * i)
theorem ordersAt_snoc (l : List Int) (p n : Nat) : ordersAt l p (n + 1) = ordersAt l p n ++ [orderAt l (p + 29 * n)] := by
  unfold ordersAt
  rw [List.range_succ, List.map_append]
  rfl
theorem ordersAt_length (l : List Int) (p n : Nat) : (ordersAt l p n).length = n := by simp [ordersAt]
def nBuys (l : List Int) : Nat := (le l 27 2).toNat
def nSells (l : List Int) : Nat := (le l 29 2).toNat
def endOf (l : List Int) : Nat := 31 + 29 * (nBuys l + nSells l)
def bookOf (l : List Int) : Book := ⟨le l 8 2, le l 10 1, ordersAt l 31 (nBuys l), ordersAt l (31 + 29 * nBuys l) (nSells l), le l 11 8, le l 19 8⟩
def zeroB : Book := ⟨0, 0, [], [], 0, 0⟩
def magAt (l : List Int) (i : Nat) : Int := if (i : Int) = l.length then 20 else if l[i]! ≠ magicL[i]! then 22 else 0
def decF (l : List Int) : Book × Int × Int :=
  match (List.range 8).find? (fun i => decide (magAt l i ≠ 0)) with
  | some i => (zeroB, i, magAt l i)
  | none =>
    if (l.length : Int) < 31 then (zeroB, l.length, 20)
    else if (l.length : Int) < endOf l + 4 then (zeroB, l.length, 20)
    else if (l.length : Int) > endOf l + 4 then (zeroB, endOf l + 4, 2)
    else if le l (endOf l) 4 ≠ sumF (l.take (endOf l)) % 18446744073709551616 then (zeroB, endOf l, 21)
    else if validE (bookOf l) ≠ 0 then (zeroB, 0, 120)
    else (bookOf l, 0, 0)
def DecPost (d : Book × Int × Int) (u : Value) (N : List Chunk) : Prop :=
  ∃ A1 c1 A2 c2, u = .tuple #[.agg (bookV d.1 (.slice A1 d.1.buys.length c1) (.slice A2 d.1.sells.length c2)).toArray, .int .i64 d.2.1, .int .i64 d.2.2] ∧
    N = [restC (.slice A2 d.1.sells.length c2) d.1.sells, restC (.slice A1 d.1.buys.length c1) d.1.buys]
theorem decF_mag {l : List Int} {i : Nat} (hi : i < 8) (hlt : ∀ j < i, magAt l j = 0) (h : magAt l i ≠ 0) : decF l = (zeroB, (i : Int), magAt l i) := by
  have : (List.range 8).find? (fun i => decide (magAt l i ≠ 0)) = some i := by
    rw [List.find?_range_eq_some]
    refine ⟨by simpa using h, by simpa using hi, ?_⟩
    intro j hj
    simpa using hlt j hj
  rw [decF, this]
theorem decF_none {l : List Int} (hlt : ∀ j < 8, magAt l j = 0) : (List.range 8).find? (fun i => decide (magAt l i ≠ 0)) = none := by
  rw [List.find?_eq_none]
  intro j hj
  have := hlt j (by simpa using hj)
  simp [this]
theorem wf_order {l : List Int} (hB : isBytes l) (p : Nat) : (orderAt l p).Wf := by
  have h := le_range4 hB
  have h1 := le_range hB (p + 12) (k := 1) (by omega)
  have h2 : le l (p + 12) 1 ≤ 255 := by
    have := leN_range ((hB.drop (p + 12)).take 1)
    have h2 : (256 : Int) ^ ((l.drop (p + 12)).take 1).length ≤ 256 ^ 1 := p256 (by rw [List.length_take]; omega)
    unfold le
    omega
  have g1 := h (p + 8)
  have g2 := h (p + 13)
  have g3 := h (p + 17)
  have g4 := h (p + 21)
  have g5 := h (p + 25)
  exact ⟨le_range hB p (by omega), g1, ⟨by show -9223372036854775808 ≤ le l (p + 12) 1; omega, by show le l (p + 12) 1 ≤ _; omega⟩, ⟨by show -9223372036854775808 ≤ le l (p + 13) 4; omega, by show le l (p + 13) 4 ≤ _; omega⟩, ⟨g3.1, by show le l (p + 17) 4 ≤ _; omega⟩, ⟨g4.1, by show le l (p + 21) 4 ≤ _; omega⟩, ⟨g5.1, by show le l (p + 25) 4 ≤ _; omega⟩⟩
theorem wf_book {l : List Int} (hB : isBytes l) : (bookOf l).Wf := by
  have h1 := le_range2 hB 8
  have h2 : 0 ≤ le l 10 1 ∧ le l 10 1 ≤ 255 := by
    have := leN_range ((hB.drop 10).take 1)
    have h2 : (256 : Int) ^ ((l.drop 10).take 1).length ≤ 256 ^ 1 := p256 (by rw [List.length_take]; omega)
    unfold le
    omega
  refine ⟨?_, ?_, ⟨by show -9223372036854775808 ≤ le l 8 2; omega, by show le l 8 2 ≤ _; omega⟩, ⟨by show -9223372036854775808 ≤ le l 10 1; omega, by show le l 10 1 ≤ _; omega⟩, le_range hB 11 (by omega), le_range hB 19 (by omega)⟩
  · intro o ho
    obtain ⟨i, _, rfl⟩ := List.mem_map.1 ho
    exact wf_order hB _
  · intro o ho
    obtain ⟨i, _, rfl⟩ := List.mem_map.1 ho
    exact wf_order hB _
set_option maxHeartbeats 2000000 in
set_option maxRecDepth 100000 in
theorem refOrders {w : World} {v : Value} {l : List Int} {p m : Nat} (hr : RSl byteEnc 1 w [] v l) (hB : isBytes l) (hm : m ≤ 65535) (ha : p + 29 * m ≤ l.length) :
    Spec Go.Proofs.Try.prog 26 #[v, .int .i64 (p : Int), .int .i64 (m : Int)] w [] (fun u N => ∃ A c, u = .slice A m c ∧ N = [restC (.slice A m c) (ordersAt l p m)]) := by
  have hsm := hr.small
  refine Spec.enter (fn := Go.Proofs.Try.f26) (n := 55) [v, .int .i64 (p : Int), .int .i64 (m : Int)] Go.Proofs.Try.func26 (by kernel_rfl) rfl Go.Proofs.Try.ntmps26 Go.Proofs.Try.results26 rfl (Own.nil _) ?_
  refine JC.rs ?_
  refine Seq.p rfl Ev.assign ?_
  refine Seq.nil ?_
  refine JC.rs ?_
  refine Seq.p rfl Ev.assign ?_
  refine Seq.re (fun w h => Upd.nilOwn h 33 7) ?_
  refine Seq.nil ?_
  refine JC.seq ?_
  refine JC.rs ?_
  refine Seq.p rfl Ev.assign ?_
  refine Seq.nil ?_
  refine JC.blk ?_
  refine JC.loop (α := Nat × Value) (I := fun s e1 H1 => Has [7, 8, 9, 10, 11, 12, 13, 14, 15, 16, 17, 18, 19, 20, 21, 22, 23, 24, 25, 26, 27, 28, 29, 30, 31, 32, 33, 34, 35, 36, 37, 38, 39, 40, 41, 42, 43, 44, 45, 46, 47, 48, 49, 50, 51, 52, 53] [(7, s.2), (8, .int .i64 (s.1 : Int))] _ e1 ∧ H1 = [restC s.2 (ordersAt l p s.1)] ∧ s.1 ≤ m ∧ ∃ A c, s.2 = .slice A s.1 c) (μ := fun s => m - s.1) (0, .slice none 0 0) ⟨Has.mk Off.refl (allLook_cons (by repeat (first | exact Look.here | apply Look.there (hne := rfl) | exact Look.const | apply Look.mix rfl | exact Look.arg0 | apply Look.args | exact Look.func)) (allLook_cons (by repeat (first | exact Look.here | apply Look.there (hne := rfl) | exact Look.const | apply Look.mix rfl | exact Look.arg0 | apply Look.args | exact Look.func)) allLook_nil)), rfl, by omega, _, _, rfl⟩ ?_
  rintro ⟨i, vi⟩ _ _ ⟨⟨u, rfl⟩, rfl, hi, hvi⟩; dsimp only [setL]; dsimp only at hi hvi
  refine JC.seq ?_
  refine JC.rs ?_
  refine Seq.p rfl Ev.move ?_
  refine Seq.p rfl Ev.move ?_
  refine Seq.p rfl Ev.lt ?_
  refine Seq.nil ?_
  first | refine JC.c (ht := fun c12 => ?_) (hf := fun c12 => ?_) | refine JC.cb (ht := fun c12 => ?_) (hf := fun c12 => ?_)
  · -- then_t12
    have hi2 : i < m := by omega
    have hpi : p + 29 * i + 29 ≤ l.length := by omega
    have hol := ordersAt_length l p i
    refine JC.skip ?_
    refine JC.seq ?_
    refine JC.blk ?_
    refine JC.rs ?_
    refine Seq.p rfl Ev.move ?_
    refine Seq.p rfl Ev.move ?_
    refine Seq.p rfl (Ev.mulN (c := 29)) ?_
    refine Seq.p rfl (Ev.addN) ?_
    generalize hq : p + 29 * i = q at hpi
    refine Seq.p rfl Ev.assign ?_
    have g1 := le_range4 hB (q + 8)
    have g2 := le_range4 hB (q + 13)
    have g3 := hB.at (k := q + 12) (by omega)
    refine Seq.nil ?_
    refine JC.anyE 0 mixed ?_
    refine Any.p 0 rfl (by kernel_rfl) (by kernel_rfl) (by kernel_rfl) rfl Ev.move ?_
    refine Any.p 1 rfl (by kernel_rfl) (by kernel_rfl) (by kernel_rfl) rfl Ev.move ?_
    refine Any.p 2 rfl (by kernel_rfl) (by kernel_rfl) (by kernel_rfl) rfl Ev.move ?_
    refine Any.call 3 rfl (by kernel_rfl) (by kernel_rfl) (by kernel_rfl) rfl (fun w hw => refGet (k := 8) (hr.up hw) hB (by omega) (by omega)) ?_
    refine Any.p 4 rfl (by kernel_rfl) (by kernel_rfl) (by kernel_rfl) rfl Ev.move ?_
    refine Any.p 5 rfl (by kernel_rfl) (by kernel_rfl) (by kernel_rfl) rfl Ev.move ?_
    refine Any.p 6 rfl (by kernel_rfl) (by kernel_rfl) (by kernel_rfl) rfl (Ev.addN (c := 8)) ?_
    refine Any.call 7 rfl (by kernel_rfl) (by kernel_rfl) (by kernel_rfl) rfl (fun w hw => refGet (k := 4) (hr.up hw) hB (by omega) (by omega)) ?_
    refine Any.p 8 rfl (by kernel_rfl) (by kernel_rfl) (by kernel_rfl) rfl (Ev.convU32 it.uint64 it.uint32 (h := g1)) ?_
    refine Any.p 9 rfl (by kernel_rfl) (by kernel_rfl) (by kernel_rfl) rfl Ev.move ?_
    refine Any.p 10 rfl (by kernel_rfl) (by kernel_rfl) (by kernel_rfl) rfl Ev.move ?_
    refine Any.p 11 rfl (by kernel_rfl) (by kernel_rfl) (by kernel_rfl) rfl (Ev.addN (c := 12)) ?_
    refine Any.p 12 rfl (by kernel_rfl) (by kernel_rfl) (by kernel_rfl) rfl (Ev.iaN sl.sl_uint8 (hr := hr.r)) ?_
    refine Any.p 13 rfl (by kernel_rfl) (by kernel_rfl) (by kernel_rfl) rfl (Ev.ldE1 sc.uint8 (hr := hr.r)) ?_
    refine Any.p 14 rfl (by kernel_rfl) (by kernel_rfl) (by kernel_rfl) rfl (Ev.conv64 it.uint8 it.int) ?_
    rw [← le_one (by omega)]
    refine Any.p 15 rfl (by kernel_rfl) (by kernel_rfl) (by kernel_rfl) rfl Ev.move ?_
    refine Any.p 16 rfl (by kernel_rfl) (by kernel_rfl) (by kernel_rfl) rfl Ev.move ?_
    refine Any.p 17 rfl (by kernel_rfl) (by kernel_rfl) (by kernel_rfl) rfl (Ev.addN (c := 13)) ?_
    refine Any.call 18 rfl (by kernel_rfl) (by kernel_rfl) (by kernel_rfl) rfl (fun w hw => refGet (k := 4) (hr.up hw) hB (by omega) (by omega)) ?_
    refine Any.p 19 rfl (by kernel_rfl) (by kernel_rfl) (by kernel_rfl) rfl (Ev.conv64 it.uint64 it.int (h := ⟨Int.le_trans (by decide) g2.1, Int.le_trans g2.2 (by decide)⟩)) ?_
    refine Any.p 20 rfl (by kernel_rfl) (by kernel_rfl) (by kernel_rfl) rfl Ev.move ?_
    refine Any.p 21 rfl (by kernel_rfl) (by kernel_rfl) (by kernel_rfl) rfl Ev.move ?_
    refine Any.p 22 rfl (by kernel_rfl) (by kernel_rfl) (by kernel_rfl) rfl (Ev.addN (c := 17)) ?_
    refine Any.call 23 rfl (by kernel_rfl) (by kernel_rfl) (by kernel_rfl) rfl (fun w hw => refGet (k := 4) (hr.up hw) hB (by omega) (by omega)) ?_
    refine Any.p 24 rfl (by kernel_rfl) (by kernel_rfl) (by kernel_rfl) rfl Ev.move ?_
    refine Any.p 25 rfl (by kernel_rfl) (by kernel_rfl) (by kernel_rfl) rfl Ev.move ?_
    refine Any.p 26 rfl (by kernel_rfl) (by kernel_rfl) (by kernel_rfl) rfl (Ev.addN (c := 21)) ?_
    refine Any.call 27 rfl (by kernel_rfl) (by kernel_rfl) (by kernel_rfl) rfl (fun w hw => refGet (k := 4) (hr.up hw) hB (by omega) (by omega)) ?_
    refine Any.p 28 rfl (by kernel_rfl) (by kernel_rfl) (by kernel_rfl) rfl Ev.move ?_
    refine Any.p 29 rfl (by kernel_rfl) (by kernel_rfl) (by kernel_rfl) rfl Ev.move ?_
    refine Any.p 30 rfl (by kernel_rfl) (by kernel_rfl) (by kernel_rfl) rfl (Ev.addN (c := 25)) ?_
    refine Any.call 31 rfl (by kernel_rfl) (by kernel_rfl) (by kernel_rfl) rfl (fun w hw => refGet (k := 4) (hr.up hw) hB (by omega) (by omega)) ?_
    refine Any.p 32 rfl (by kernel_rfl) (by kernel_rfl) (by kernel_rfl) rfl (Ev.buildN [_, _, _, _, _, _, _] pl.api_Resting z.api_Resting) ?_
    refine Any.one 33 rfl (by kernel_rfl) ?_
    refine Seq.buildSlN [_, _, _, _, _, _, _] (hsl := sl.sl_api_Resting) (hz := z.api_Resting) (k := ?_); intro b52
    refine Seq.nil ⟨(by repeat (first | exact Part.refl _ | exact Part.nil _ | apply Part.here | apply Part.skip)), ?_⟩
    refine Any.one 34 rfl (by kernel_rfl) ?_
    refine Seq.append (hsl := sl.sl_api_Resting) (he := el.api_Resting) (hsrc := (fun w' hw => Src.box (news := (orderAt l q).enc) sl.sl_api_Resting At.z hw rfl (fun q u hu => hu))) (k := ?_); intro A53 c53
    refine Seq.nil ⟨(by repeat (first | exact Part.refl _ | exact Part.nil _ | apply Part.here | apply Part.skip)), ?_⟩
    refine Any.p 35 rfl (by kernel_rfl) (by kernel_rfl) (by kernel_rfl) rfl Ev.assign ?_
    refine Any.done (by kernel_rfl) ?_
    refine JC.reg ?_
    refine Seq.p rfl Ev.move ?_
    refine Seq.p rfl (by first | exact Ev.inc | exact Ev.add) ?_
    refine Seq.p rfl Ev.assign ?_
    refine Seq.nil ?_
    refine ⟨(i + 1, .slice A53 ((ordersAt l p i).length + 1) c53), _, Part.skip (Part.refl _), ⟨Has.mk (by repeat (first | refine Off.upd ?_ rfl | exact Off.mix | refine Off.mix2 ?_ rfl | exact Off.refl)) (allLook_cons (by repeat (first | exact Look.here | apply Look.there (hne := rfl) | exact Look.const | apply Look.mix rfl | exact Look.arg0 | apply Look.args | exact Look.func)) (allLook_cons (by repeat (first | exact Look.here | apply Look.there (hne := rfl) | exact Look.const | apply Look.mix rfl | exact Look.arg0 | apply Look.args | exact Look.func)) allLook_nil)), ?_, by show i + 1 ≤ m; omega, A53, c53, by show _ = Value.slice A53 (i + 1) c53; rw [hol]⟩, by show m - (i + 1) < m - i; omega⟩
    show [Chunk.own _ _ _ _ _] = _
    rw [ordersAt_snoc, ← restC_append, hq]
    simp
  · -- else_t12
    obtain rfl : i = m := by omega
    refine JC.exit ?_ -- 0
    refine JC.rs ?_
    refine Seq.p rfl Ev.move ?_
    refine Seq.p rfl Ev.assign ?_
    refine Seq.nil ?_
    refine JC.ret ?_
    -- return 0
    show retQ _ _ _ _ _ _ _ _
    refine ret1 (hp := Part.refl _) (hpost := ?_)
    obtain ⟨A, c, rfl⟩ := hvi
    exact ⟨A, c, rfl, rfl⟩
end Go.Rx
