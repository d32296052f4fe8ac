/- Slices of orders joined; a book's bytes, by the program and by the document. -/
import Derived.Test.YtkmakbkchnibkaaV5
namespace Go.Rx
open Go Go.RowKit
set_option linter.unusedVariables false
set_option linter.unusedSimpArgs false
abbrev restC (v : Value) (l : List Resting) : Chunk := .own 33 7 v l.length (l.flatMap Resting.enc)
theorem restC_append (v : Value) (l l' : List Resting) : Chunk.own 33 7 v (l.length + l'.length) (l.flatMap Resting.enc ++ l'.flatMap Resting.enc) = restC v (l ++ l') := by
  simp only [restC, List.length_append, List.flatMap_append]
theorem flat_snoc {α : Type} [Inhabited α] {L : List (List α)} {i : Nat} (hi : i < L.length) : (L.take (i + 1)).flatten = (L.take i).flatten ++ L[i]! := by
  rw [List.take_succ_eq_append_getElem hi, List.flatten_append, getElem!_pos L i hi]
  simp
theorem flat_le {α : Type} {L : List (List α)} (i : Nat) : (L.take i).flatten.length ≤ L.flatten.length := by
  have h : L.flatten = (L.take i).flatten ++ (L.drop i).flatten := by rw [← List.flatten_append, List.take_append_drop]
  rw [h, List.length_append]
  omega
set_option maxRecDepth 100000 in
theorem concatR {w : World} {v0 : Value} {V : List Value} {L : List (List Resting)} (hV : RSl (fun v : Value => [v]) 1 w [] v0 V) (hl : V.length = L.length) (hR : ∀ i, i < V.length → RSl Resting.enc 7 w [] V[i]! L[i]!) (hb : L.flatten.length * 56 ≤ 70368744177664) :
    Spec Go.Proofs.Try.prog 29 #[v0] w [] (fun u N => ∃ A c, u = .slice A L.flatten.length c ∧ N = [restC u L.flatten]) := by
  have hsm := hV.small
  refine Spec.enter (fn := Go.Proofs.Try.f29) (n := 36) [v0] Go.Proofs.Try.func29 (by kernel_rfl) rfl Go.Proofs.Try.ntmps29 Go.Proofs.Try.results29 rfl (Own.nil _) ?_
  refine JC.rs ?_
  refine Seq.p rfl Ev.assign ?_
  refine Seq.nil ?_
  refine JC.rs ?_
  refine Seq.p rfl Ev.assign ?_
  refine Seq.nil ?_
  refine JC.seq ?_
  refine JC.rs ?_
  refine Seq.p rfl Ev.move ?_
  refine Seq.p rfl (Ev.lenSl sl.sl_sl_api_Resting (hr := hV.r)) ?_
  refine Seq.p rfl Ev.move ?_
  refine Seq.nil ?_
  refine JC.blk ?_
  refine JC.loop (α := Nat) (I := fun i e1 H1 => Has [3, 5, 11, 12, 13, 14, 15, 16, 17, 18, 19, 20, 21, 22] [(3, .int .i64 ((L.take i).flatten.length : Int)), (11, .int .i64 (i : Int))] _ e1 ∧ H1 = _ ∧ i ≤ V.length) (μ := fun i => V.length - i) 0 ⟨Has.mk Off.refl (allLook_cons (by repeat (first | exact Look.here | apply Look.there (hne := rfl) | exact Look.const | apply Look.mix rfl | exact Look.arg0 | apply Look.args | exact Look.func)) (allLook_cons (by repeat (first | exact Look.here | apply Look.there (hne := rfl) | exact Look.const | apply Look.mix rfl | exact Look.arg0 | apply Look.args | exact Look.func)) allLook_nil)), rfl, by omega⟩ ?_
  rintro i _ _ ⟨⟨u, rfl⟩, rfl, hi⟩; dsimp only [setL]
  refine JC.rs ?_
  refine Seq.p rfl Ev.lt ?_
  refine Seq.nil ?_
  refine JC.seq ?_
  first | refine JC.c (ht := fun c12 => ?_) (hf := fun c12 => ?_) | refine JC.cb (ht := fun c12 => ?_) (hf := fun c12 => ?_)
  · -- then_t12
    have hi2 : i < V.length := by omega
    have hri := hR i hi2
    have hsn : (((L.take (i + 1)).flatten.length : Nat) : Int) = ((L.take i).flatten.length : Int) + ((L[i]!).length : Int) := by rw [flat_snoc (by omega), List.length_append]; omega
    have hle := flat_le (L := L) (i + 1)
    refine JC.skip ?_
    refine JC.seq ?_
    refine JC.blk ?_
    refine JC.rs ?_
    refine Seq.p rfl (Ev.iaN sl.sl_sl_api_Resting (hr := hV.r)) ?_
    refine Seq.p rfl (Ev.ldE1 sc.sl_api_Resting (hr := hV.r)) ?_
    refine Seq.p rfl Ev.assign ?_
    refine Seq.nil ?_
    refine JC.rs ?_
    refine Seq.p rfl Ev.move ?_
    refine Seq.p rfl Ev.move ?_
    refine Seq.p rfl (Ev.lenSl sl.sl_api_Resting (hr := hri.r)) ?_
    refine Seq.p rfl Ev.add ?_
    refine Seq.p rfl Ev.assign ?_
    refine Seq.nil ?_
    refine JC.rs ?_
    refine Seq.p rfl Ev.move ?_
    refine Seq.p rfl Ev.lt ?_
    refine Seq.nil ?_
    first | refine JC.c (ht := fun c20 => ?_) (hf := fun c20 => ?_) | refine JC.cb (ht := fun c20 => ?_) (hf := fun c20 => ?_)
    · -- then_t20
      exfalso; omega
    · -- else_t20
      refine JC.skip ?_
      refine JC.reg ?_
      refine Seq.p rfl (by first | exact Ev.inc | exact Ev.add) ?_
      refine Seq.p rfl Ev.move ?_
      refine Seq.nil ?_
      exact ⟨i + 1, _, Part.refl _, ⟨Has.mk (by repeat (first | refine Off.upd ?_ rfl | exact Off.mix | refine Off.mix2 ?_ rfl | exact Off.refl)) (allLook_cons (by rw [hsn]; exact (by repeat (first | exact Look.here | apply Look.there (hne := rfl) | exact Look.const | apply Look.mix rfl | exact Look.arg0 | apply Look.args | exact Look.func))) (allLook_cons (by repeat (first | exact Look.here | apply Look.there (hne := rfl) | exact Look.const | apply Look.mix rfl | exact Look.arg0 | apply Look.args | exact Look.func)) allLook_nil)), rfl, by omega⟩, by omega⟩
  · -- else_t12
    obtain rfl : i = V.length := by omega
    rw [hl, List.take_length]
    refine JC.exit ?_ -- 0
    refine JC.rs ?_
    refine Seq.p rfl Ev.move ?_
    refine Seq.call rfl (fun w hw => growNilR (m := L.flatten.length) (by omega)) (F := _) (by exact List.Perm.refl _) ?_
    rintro _ _ ⟨A24, c24, rfl, rfl⟩
    refine Seq.p rfl Ev.assign ?_
    refine Seq.nil ?_
    refine JC.seq ?_
    refine JC.rs ?_
    refine Seq.p rfl Ev.move ?_
    refine Seq.p rfl (Ev.lenSl sl.sl_sl_api_Resting (hr := hV.r)) ?_
    refine Seq.p rfl Ev.move ?_
    refine Seq.nil ?_
    refine JC.blk ?_
    refine JC.loop (α := Nat × Value) (I := fun s e1 H1 => Has [6, 8, 27, 28, 29, 30, 31, 32, 33, 34] [(6, s.2), (27, .int .i64 (s.1 : Int))] _ e1 ∧ H1 = [restC s.2 (L.take s.1).flatten] ∧ s.1 ≤ V.length ∧ ∃ A c, s.2 = .slice A (L.take s.1).flatten.length c) (μ := fun s => V.length - s.1) (0, .slice A24 0 c24) ⟨Has.mk Off.refl (allLook_cons (by repeat (first | exact Look.here | apply Look.there (hne := rfl) | exact Look.const | apply Look.mix rfl | exact Look.arg0 | apply Look.args | exact Look.func)) (allLook_cons (by repeat (first | exact Look.here | apply Look.there (hne := rfl) | exact Look.const | apply Look.mix rfl | exact Look.arg0 | apply Look.args | exact Look.func)) allLook_nil)), rfl, by omega, _, _, rfl⟩ ?_
    rintro ⟨i, vi⟩ _ _ ⟨⟨u2, rfl⟩, rfl, hi, hvi⟩; dsimp only [setL]; dsimp only at hi hvi
    refine JC.rs ?_
    refine Seq.p rfl Ev.lt ?_
    refine Seq.nil ?_
    refine JC.seq ?_
    first | refine JC.c (ht := fun c28 => ?_) (hf := fun c28 => ?_) | refine JC.cb (ht := fun c28 => ?_) (hf := fun c28 => ?_)
    · -- then_t28
      have hi2 : i < V.length := by omega
      have hri := hR i hi2
      have hle := flat_le (L := L) (i + 1)
      rw [flat_snoc (by omega), List.length_append] at hle
      refine JC.skip ?_
      refine JC.seq ?_
      refine JC.blk ?_
      refine JC.rs ?_
      refine Seq.p rfl (Ev.iaN sl.sl_sl_api_Resting (hr := hV.r)) ?_
      refine Seq.p rfl (Ev.ldE1 sc.sl_api_Resting (hr := hV.r)) ?_
      refine Seq.p rfl Ev.assign ?_
      refine Seq.nil ?_
      refine JC.reg ?_
      refine Seq.p rfl Ev.move ?_
      refine Seq.p rfl Ev.move ?_
      refine Seq.append (hsl := sl.sl_api_Resting) (he := el.api_Resting) (hsrc := (fun w' hw => Src.rsl sl.sl_api_Resting (hri.up hw) (by omega) restOne)) (k := ?_); intro A33 c33
      refine Seq.p rfl Ev.assign ?_
      refine Seq.nil ?_
      refine JC.reg ?_
      refine Seq.p rfl (by first | exact Ev.inc | exact Ev.add) ?_
      refine Seq.p rfl Ev.move ?_
      refine Seq.nil ?_
      refine ⟨(i + 1, .slice A33 ((L.take i).flatten.length + (L[i]!).length) c33), _, Part.refl _, ⟨Has.mk (by repeat (first | refine Off.upd ?_ rfl | exact Off.mix | refine Off.mix2 ?_ rfl | exact Off.refl)) (allLook_cons (by repeat (first | exact Look.here | apply Look.there (hne := rfl) | exact Look.const | apply Look.mix rfl | exact Look.arg0 | apply Look.args | exact Look.func)) (allLook_cons (by repeat (first | exact Look.here | apply Look.there (hne := rfl) | exact Look.const | apply Look.mix rfl | exact Look.arg0 | apply Look.args | exact Look.func)) allLook_nil)), ?_, by show i + 1 ≤ V.length; omega, A33, c33, ?_⟩, by show V.length - (i + 1) < V.length - i; omega⟩
      · show [Chunk.own _ _ _ _ _] = _
        rw [flat_snoc (by omega), ← restC_append]
      · show _ = Value.slice A33 (L.take (i + 1)).flatten.length c33
        rw [flat_snoc (by omega), List.length_append]
    · -- else_t28
      obtain rfl : i = V.length := by omega
      rw [hl, List.take_length] at hvi
      rw [hl, List.take_length]
      refine JC.exit ?_ -- 2
      refine JC.rs ?_
      refine Seq.p rfl Ev.move ?_
      refine Seq.p rfl Ev.assign ?_
      refine Seq.nil ?_
      refine JC.ret ?_
      -- return 0
      show retQ _ _ _ _ _ _ _ _
      refine ret1 (hp := Part.refl _) (hpost := ?_)
      obtain ⟨A, c, rfl⟩ := hvi
      exact ⟨A, c, rfl, rfl⟩
def itemB (o : Resting) : List Int := leB o.id 8 ++ leB (o.member % 18446744073709551616) 4 ++ leB (o.type % 18446744073709551616) 1 ++ leB (o.price % 18446744073709551616) 4 ++ leB o.visible 4 ++ leB o.hidden 4 ++ leB o.peak 4
def headB (b : Book) : List Int := [66, 82, 83, 66, 79, 79, 75, 49] ++ leB (b.cap % 18446744073709551616) 2 ++ leB (b.meet % 18446744073709551616) 1 ++ leB b.high 8 ++ leB b.seq 8 ++ leB ((b.buys.length : Int) % 18446744073709551616) 2 ++ leB ((b.sells.length : Int) % 18446744073709551616) 2
def bodyB (b : Book) : List Int := headB b ++ (b.buys ++ b.sells).flatMap itemB
def encB (b : Book) : List Int := bodyB b ++ leB (sumF (bodyB b) % 18446744073709551616) 4
theorem itemB_length (o : Resting) : (itemB o).length = 29 := by simp [itemB, leB_length]
theorem headB_length (b : Book) : (headB b).length = 31 := by simp [headB, leB_length]
theorem items_length (l : List Resting) : (l.flatMap itemB).length = 29 * l.length := by
  induction l with
  | nil => rfl
  | cons o l ih => rw [List.flatMap_cons, List.length_append, ih, itemB_length, List.length_cons]; omega
theorem items_snoc {l : List Resting} {i : Nat} (hi : i < l.length) : (l.take (i + 1)).flatMap itemB = (l.take i).flatMap itemB ++ itemB l[i]! := by
  rw [List.take_succ_eq_append_getElem hi, List.flatMap_append, getElem!_pos l i hi]
  simp
end Go.Rx
