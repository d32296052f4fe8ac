/- Numbers put behind bytes; slices joined. -/
import Derived.Test.YtkmakbkchnibkaaV4
namespace Go.Rx
open Go Go.RowKit
set_option linter.unusedVariables false
set_option linter.unusedSimpArgs false
def byteAt (n : Int) (i : Nat) : Int := (n / 2 ^ (min (8 * (i : Int)).toNat IntKind.u64.bits)) % 256
def leB (n : Int) (k : Nat) : List Int := (List.range k).map (byteAt n)
theorem leB_snoc (n : Int) (k : Nat) : leB n (k + 1) = leB n k ++ [byteAt n k] := by
  unfold leB
  rw [List.range_succ, List.map_append]
  rfl
theorem leB_length (n : Int) (k : Nat) : (leB n k).length = k := by simp [leB]
theorem leB_range (n : Int) (k : Nat) : ∀ b ∈ leB n k, 0 ≤ b ∧ b ≤ 255 := by
  intro b hb
  obtain ⟨i, _, rfl⟩ := List.mem_map.1 hb
  unfold byteAt
  omega
abbrev bytesC (v : Value) (l : List Int) : Chunk := .own 5 1 v l.length (l.flatMap byteEnc)
theorem bytesC_snoc (v : Value) (l : List Int) (x : Int) : Chunk.own 5 1 v (l.length + 1) (l.flatMap byteEnc ++ [.int .u8 x]) = bytesC v (l ++ [x]) := by
  simp only [bytesC, List.length_append, List.flatMap_append]
  rfl
set_option maxRecDepth 100000 in
theorem snapPut {w : World} {v : Value} {l : List Int} {m : Int} {k : Nat} (hk : k ≤ 8) (hl : l.length ≤ 70368744177664) (ho : Own w [bytesC v l]) :
    Spec Go.Proofs.Try.prog 28 #[v, .int .u64 m, .int .i64 (k : Int)] w [bytesC v l] (fun u N => ∃ c', N = [c'] ∧ (∃ A c, u = .slice A (l.length + k) c) ∧ c' = bytesC u (l ++ leB m k)) := by
  refine Spec.enter (fn := Go.Proofs.Try.f28) (n := 22) [v, .int .u64 m, .int .i64 (k : Int)] Go.Proofs.Try.func28 (by kernel_rfl) rfl Go.Proofs.Try.ntmps28 Go.Proofs.Try.results28 rfl ho ?_
  have hvs : ∃ A c, v = .slice A (l.length + 0) c := by
    have h := ho.ok _ (List.mem_singleton.2 rfl)
    exact ownsRow_slice h
  refine JC.rs ?_
  refine Seq.p rfl Ev.assign ?_
  refine Seq.nil ?_
  refine JC.seq ?_
  refine JC.rs ?_
  refine Seq.p rfl Ev.move ?_
  refine Seq.p rfl Ev.move ?_
  refine Seq.nil ?_
  refine JC.blk ?_
  refine JC.loop (α := Nat × Value) (I := fun s e1 H1 => Has [0, 7, 9, 10, 11, 12, 13, 14, 15, 16, 17, 18, 19, 20] [(0, s.2), (9, .int .i64 (s.1 : Int))] _ e1 ∧ H1 = [bytesC s.2 (l ++ leB m s.1)] ∧ s.1 ≤ k ∧ ∃ A c, s.2 = .slice A (l.length + s.1) c) (μ := fun s => k - s.1) (0, v) ⟨Has.mk Off.refl (allLook_cons (by repeat (first | exact Look.here | apply Look.there (hne := rfl) | exact Look.const | apply Look.mix rfl | exact Look.arg0 | apply Look.args | exact Look.func)) (allLook_cons (by repeat (first | exact Look.here | apply Look.there (hne := rfl) | exact Look.const | apply Look.mix rfl | exact Look.arg0 | apply Look.args | exact Look.func)) allLook_nil)), by rw [show leB m 0 = [] from rfl, List.append_nil], by omega, hvs⟩ ?_
  rintro ⟨i, vi⟩ _ _ ⟨⟨u, rfl⟩, rfl, hi, hvi⟩; dsimp only [setL]; dsimp only at hi hvi
  refine JC.rs ?_
  refine Seq.p rfl Ev.lt ?_
  refine Seq.nil ?_
  refine JC.seq ?_
  first | refine JC.c (ht := fun c10 => ?_) (hf := fun c10 => ?_) | refine JC.cb (ht := fun c10 => ?_) (hf := fun c10 => ?_)
  · -- then_t10
    have hi2 : i < k := by omega
    have hll : (l ++ leB m i).length = l.length + i := by rw [List.length_append, leB_length]
    refine JC.skip ?_
    refine JC.seq ?_
    refine JC.blk ?_
    refine JC.rs ?_
    refine Seq.p rfl Ev.move ?_
    refine Seq.p rfl Ev.assign ?_
    refine Seq.nil ?_
    refine JC.reg ?_
    refine Seq.p rfl Ev.move ?_
    refine Seq.p rfl Ev.move ?_
    refine Seq.p rfl Ev.move ?_
    refine Seq.p rfl Ev.mul ?_
    refine Seq.p rfl Ev.shrW ?_
    refine Seq.p rfl (Ev.convU8W it.uint64 it.uint8) ?_
    refine Seq.buildSlN [_] (hsl := sl.sl_uint8) (hz := z.uint8) (k := ?_); intro b18
    refine Seq.append (hsl := sl.sl_uint8) (he := el.uint8) (hsrc := (fun w' hw => Src.box (news := [.int .u8 (byteAt m i)]) sl.sl_uint8 At.z hw rfl (fun q u hu => hu))) (k := ?_); intro A19 c19
    refine Seq.p rfl Ev.assign ?_
    refine Seq.nil ?_
    refine JC.reg ?_
    refine Seq.p rfl (by first | exact Ev.inc | exact Ev.add) ?_
    refine Seq.p rfl Ev.move ?_
    refine Seq.nil ?_
    refine ⟨(i + 1, .slice A19 ((l ++ leB m i).length + 1) c19), _, Part.skip (Part.refl _), ⟨Has.mk (by repeat (first | refine Off.upd ?_ rfl | exact Off.mix | refine Off.mix2 ?_ rfl | exact Off.refl)) (allLook_cons (by repeat (first | exact Look.here | apply Look.there (hne := rfl) | exact Look.const | apply Look.mix rfl | exact Look.arg0 | apply Look.args | exact Look.func)) (allLook_cons (by repeat (first | exact Look.here | apply Look.there (hne := rfl) | exact Look.const | apply Look.mix rfl | exact Look.arg0 | apply Look.args | exact Look.func)) allLook_nil)), ?_, by show i + 1 ≤ k; omega, A19, c19, by show _ = Value.slice A19 (l.length + (i + 1)) c19; rw [hll]; rfl⟩, by show k - (i + 1) < k - i; omega⟩
    show [Chunk.own _ _ _ _ _] = _
    rw [leB_snoc, ← List.append_assoc, ← bytesC_snoc]
  · -- else_t10
    obtain rfl : i = k := by omega
    refine JC.exit ?_ -- 0
    refine JC.rs ?_
    refine Seq.p rfl Ev.move ?_
    refine Seq.p rfl Ev.assign ?_
    refine Seq.nil ?_
    refine JC.ret ?_
    -- return 0
    show retQ _ _ _ _ _ _ _ _
    refine ret1 (hp := Part.refl _) (hpost := ?_)
    exact ⟨_, rfl, hvi, rfl⟩
set_option maxRecDepth 100000 in
theorem refPut {w : World} {v : Value} {l : List Int} {m : Int} {k : Nat} (hk : k ≤ 8) (hl : l.length ≤ 70368744177664) (ho : Own w [bytesC v l]) :
    Spec Go.Proofs.Try.prog 30 #[v, .int .u64 m, .int .i64 (k : Int)] w [bytesC v l] (fun u N => ∃ c', N = [c'] ∧ (∃ A c, u = .slice A (l.length + k) c) ∧ c' = bytesC u (l ++ leB m k)) := by
  refine Spec.enter (fn := Go.Proofs.Try.f30) (n := 22) [v, .int .u64 m, .int .i64 (k : Int)] Go.Proofs.Try.func30 (by kernel_rfl) rfl Go.Proofs.Try.ntmps30 Go.Proofs.Try.results30 rfl ho ?_
  have hvs : ∃ A c, v = .slice A (l.length + 0) c := by
    have h := ho.ok _ (List.mem_singleton.2 rfl)
    exact ownsRow_slice h
  refine JC.rs ?_
  refine Seq.p rfl Ev.assign ?_
  refine Seq.nil ?_
  refine JC.seq ?_
  refine JC.rs ?_
  refine Seq.p rfl Ev.assign ?_
  refine Seq.nil ?_
  refine JC.blk ?_
  refine JC.loop (α := Nat × Value) (I := fun s e1 H1 => Has [0, 7, 8, 9, 10, 11, 12, 13, 14, 15, 16, 17, 18, 19, 20] [(0, s.2), (7, .int .i64 (s.1 : Int))] _ e1 ∧ H1 = [bytesC s.2 (l ++ leB m s.1)] ∧ s.1 ≤ k ∧ ∃ A c, s.2 = .slice A (l.length + s.1) c) (μ := fun s => k - s.1) (0, v) ⟨Has.mk Off.refl (allLook_cons (by repeat (first | exact Look.here | apply Look.there (hne := rfl) | exact Look.const | apply Look.mix rfl | exact Look.arg0 | apply Look.args | exact Look.func)) (allLook_cons (by repeat (first | exact Look.here | apply Look.there (hne := rfl) | exact Look.const | apply Look.mix rfl | exact Look.arg0 | apply Look.args | exact Look.func)) allLook_nil)), by rw [show leB m 0 = [] from rfl, List.append_nil], by omega, hvs⟩ ?_
  rintro ⟨i, vi⟩ _ _ ⟨⟨u, rfl⟩, rfl, hi, hvi⟩; dsimp only [setL]; dsimp only at hi hvi
  refine JC.seq ?_
  refine JC.rs ?_
  refine Seq.p rfl Ev.move ?_
  refine Seq.p rfl Ev.move ?_
  refine Seq.p rfl Ev.lt ?_
  refine Seq.nil ?_
  first | refine JC.c (ht := fun c10 => ?_) (hf := fun c10 => ?_) | refine JC.cb (ht := fun c10 => ?_) (hf := fun c10 => ?_)
  · -- then_t10
    have hi2 : i < k := by omega
    have hll : (l ++ leB m i).length = l.length + i := by rw [List.length_append, leB_length]
    refine JC.skip ?_
    refine JC.seq ?_
    refine JC.blk ?_
    refine JC.reg ?_
    refine Seq.p rfl Ev.move ?_
    refine Seq.p rfl Ev.move ?_
    refine Seq.p rfl Ev.move ?_
    refine Seq.p rfl Ev.mul ?_
    refine Seq.p rfl Ev.shrW ?_
    refine Seq.p rfl (Ev.convU8W it.uint64 it.uint8) ?_
    refine Seq.buildSlN [_] (hsl := sl.sl_uint8) (hz := z.uint8) (k := ?_); intro b19
    refine Seq.append (hsl := sl.sl_uint8) (he := el.uint8) (hsrc := (fun w' hw => Src.box (news := [.int .u8 (byteAt m i)]) sl.sl_uint8 At.z hw rfl (fun q u hu => hu))) (k := ?_); intro A20 c20
    refine Seq.p rfl Ev.assign ?_
    refine Seq.nil ?_
    refine JC.reg ?_
    refine Seq.p rfl Ev.move ?_
    refine Seq.p rfl (by first | exact Ev.inc | exact Ev.add) ?_
    refine Seq.p rfl Ev.assign ?_
    refine Seq.nil ?_
    refine ⟨(i + 1, .slice A20 ((l ++ leB m i).length + 1) c20), _, Part.skip (Part.refl _), ⟨Has.mk (by repeat (first | refine Off.upd ?_ rfl | exact Off.mix | refine Off.mix2 ?_ rfl | exact Off.refl)) (allLook_cons (by repeat (first | exact Look.here | apply Look.there (hne := rfl) | exact Look.const | apply Look.mix rfl | exact Look.arg0 | apply Look.args | exact Look.func)) (allLook_cons (by repeat (first | exact Look.here | apply Look.there (hne := rfl) | exact Look.const | apply Look.mix rfl | exact Look.arg0 | apply Look.args | exact Look.func)) allLook_nil)), ?_, by show i + 1 ≤ k; omega, A20, c20, by show _ = Value.slice A20 (l.length + (i + 1)) c20; rw [hll]; rfl⟩, by show k - (i + 1) < k - i; omega⟩
    show [Chunk.own _ _ _ _ _] = _
    rw [leB_snoc, ← List.append_assoc, ← bytesC_snoc]
  · -- else_t10
    obtain rfl : i = k := by omega
    refine JC.exit ?_ -- 0
    refine JC.rs ?_
    refine Seq.p rfl Ev.move ?_
    refine Seq.p rfl Ev.assign ?_
    refine Seq.nil ?_
    refine JC.ret ?_
    -- return 0
    show retQ _ _ _ _ _ _ _ _
    refine ret1 (hp := Part.refl _) (hpost := ?_)
    exact ⟨_, rfl, hvi, rfl⟩
set_option maxRecDepth 100000 in
theorem growNilR {w : World} {m : Nat} (hm : m * 56 ≤ 140737488355328) : Spec Go.Proofs.Try.prog 38 #[.slice none 0 0, .int .i64 (m : Int)] w [] (fun u N => ∃ A c, u = .slice A 0 c ∧ N = [.own 33 7 (.slice A 0 c) 0 []]) := by
  refine Spec.enter (fn := Go.Proofs.Try.f38) (n := 27) [.slice none 0 0, .int .i64 (m : Int)] Go.Proofs.Try.func38 (by kernel_rfl) rfl Go.Proofs.Try.ntmps38 Go.Proofs.Try.results38 rfl (Own.nil _) ?_
  refine JC.rs ?_
  refine Seq.p rfl Ev.assign ?_
  refine Seq.nil ?_
  refine JC.seq ?_
  refine JC.rs ?_
  refine Seq.p rfl Ev.move ?_
  refine Seq.p rfl Ev.lt ?_
  refine Seq.nil ?_
  first | refine JC.c (ht := fun c6 => ?_) (hf := fun c6 => ?_) | refine JC.cb (ht := fun c6 => ?_) (hf := fun c6 => ?_)
  · -- then_t6
    exfalso; omega
  · -- else_t6
    refine JC.skip ?_
    refine JC.seq ?_
    refine JC.rs ?_
    refine Seq.p rfl Ev.move ?_
    refine Seq.p rfl Ev.move ?_
    refine Seq.p rfl (Ev.capSl sl.sl_api_Resting) ?_
    refine Seq.p rfl Ev.move ?_
    refine Seq.p rfl (Ev.lenSl sl.sl_api_Resting (hr := (RSl.empty Resting.enc 7 _ []).r)) ?_
    refine Seq.p rfl (Ev.sub (h := by decide)) ?_
    have e1 : ((0 : Nat) : Int) - ((List.length ([] : List Resting) : Nat) : Int) = 0 := rfl
    rw [e1]
    refine Seq.p rfl (Ev.sub) ?_
    rw [Int.sub_zero]
    refine Seq.p rfl Ev.assign ?_
    refine Seq.nil ?_
    refine JC.rs ?_
    refine Seq.p rfl Ev.move ?_
    refine Seq.p rfl Ev.gt ?_
    refine Seq.nil ?_
    first | refine JC.c (ht := fun c16 => ?_) (hf := fun c16 => ?_) | refine JC.cb (ht := fun c16 => ?_) (hf := fun c16 => ?_)
    · -- then_t16
      refine JC.reg ?_
      refine Seq.p rfl Ev.move ?_
      refine Seq.p rfl Ev.move ?_
      refine Seq.p rfl (Ev.capSl sl.sl_api_Resting) ?_
      refine Seq.p rfl (Ev.cutHi (h := 0) sl.sl_api_Resting) ?_
      refine Seq.p rfl Ev.move ?_
      refine Seq.growNil (m := m) (hsl := sl.sl_api_Resting) (he := el.api_Resting) (hi := it.int) (kk := ?_); intro b22 c22 zs
      refine Seq.p rfl Ev.move ?_
      refine Seq.p rfl (Ev.lenSl sl.sl_api_Resting (hr := (RSl.empty Resting.enc 7 _ []).r)) ?_
      refine Seq.p rfl (Ev.cutHi (h := 0) sl.sl_api_Resting) ?_
      refine Seq.re (fun w h => Upd.own0 h At.z) ?_
      refine Seq.p rfl Ev.assign ?_
      refine Seq.nil ?_
      refine JC.rs ?_
      refine Seq.p rfl Ev.move ?_
      refine Seq.p rfl Ev.assign ?_
      refine Seq.nil ?_
      refine JC.ret ?_
      -- return 0
      show retQ _ _ _ _ _ _ _ _
      first | refine ret1 (hp := Part.refl _) (hpost := ?_) | refine ret1 (H' := [.own 33 7 (.slice none 0 0) 0 []]) (hp := ?_) (hpost := ?_)
      exact ⟨_, _, rfl, rfl⟩
    · -- else_t16
      obtain rfl : m = 0 := by omega
      refine JC.re (fun w h => Upd.nilOwn h 33 7) ?_
      refine JC.skip ?_
      refine JC.rs ?_
      refine Seq.p rfl Ev.move ?_
      refine Seq.p rfl Ev.assign ?_
      refine Seq.nil ?_
      refine JC.ret ?_
      -- return 1
      show retQ _ _ _ _ _ _ _ _
      refine ret1 (hp := Part.refl _) (hpost := ?_)
      exact ⟨_, _, rfl, rfl⟩
end Go.Rx
