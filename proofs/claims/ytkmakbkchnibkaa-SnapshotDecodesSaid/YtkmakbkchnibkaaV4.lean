/- The check sum of bytes, by the program and by the document. -/
import Derived.Test.YtkmakbkchnibkaaV3
namespace Go.Rx
open Go Go.RowKit
set_option linter.unusedVariables false
set_option linter.unusedSimpArgs false
def xor32 (a b : Int) : Int := IntKind.u32.wrap ((BitVec.ofInt IntKind.u32.bits a ^^^ BitVec.ofInt IntKind.u32.bits b).toNat)
theorem u32_range (n : Int) : 0 ≤ IntKind.u32.wrap n ∧ IntKind.u32.wrap n ≤ 4294967295 := by
  rw [wrap_u32']
  omega
theorem xor32_range (a b : Int) : 0 ≤ xor32 a b ∧ xor32 a b ≤ 4294967295 := u32_range _
theorem xor32_comm (a b : Int) : xor32 a b = xor32 b a := by
  unfold xor32
  rw [BitVec.xor_comm]
def crcBit (c : Int) : Int := if c % 2 = 1 then xor32 (c / 2) 3988292384 else c / 2
def crcBits (c : Int) : Nat → Int
  | 0 => c
  | j + 1 => crcBit (crcBits c j)
theorem crcBit_range {c : Int} (h : 0 ≤ c ∧ c ≤ 4294967295) : 0 ≤ crcBit c ∧ crcBit c ≤ 4294967295 := by
  unfold crcBit
  split
  · exact xor32_range _ _
  · omega
theorem crcBits_range {c : Int} (h : 0 ≤ c ∧ c ≤ 4294967295) (j : Nat) : 0 ≤ crcBits c j ∧ crcBits c j ≤ 4294967295 := by
  induction j with
  | zero => exact h
  | succ j ih => exact crcBit_range ih
def crcByte (c x : Int) : Int := crcBits (xor32 c (x % 4294967296)) 8
def crcL (l : List Int) : Int := l.foldl crcByte 4294967295
def sumF (l : List Int) : Int := xor32 (crcL l) 4294967295
theorem crcL_snoc {l : List Int} {i : Nat} (hi : i < l.length) : crcL (l.take (i + 1)) = crcByte (crcL (l.take i)) l[i]! := by
  unfold crcL
  rw [List.take_succ_eq_append_getElem hi, List.foldl_append, getElem!_pos l i hi]
  rfl
theorem crcL_range (l : List Int) : 0 ≤ crcL l ∧ crcL l ≤ 4294967295 := by
  unfold crcL
  have key : ∀ (l : List Int) (c : Int), 0 ≤ c ∧ c ≤ 4294967295 → 0 ≤ l.foldl crcByte c ∧ l.foldl crcByte c ≤ 4294967295 := by
    intro l
    induction l with
    | nil => intro c h; exact h
    | cons x l ih =>
      intro c h
      exact ih _ (crcBits_range (xor32_range _ _) 8)
  exact key l _ (by omega)
theorem and32_one {c : Int} (h : 0 ≤ c ∧ c ≤ 4294967295) : IntKind.u32.wrap ((BitVec.ofInt IntKind.u32.bits c &&& BitVec.ofInt IntKind.u32.bits 1).toNat) = c % 2 := by
  have h1 : (BitVec.ofInt IntKind.u32.bits c).toNat = c.toNat := by
    rw [BitVec.toNat_ofInt]
    have : ((2 ^ IntKind.u32.bits : Nat) : Int) = 4294967296 := rfl
    rw [this, Int.emod_eq_of_lt h.1 (by omega)]
  have h2 : (BitVec.ofInt IntKind.u32.bits 1).toNat = 2 ^ 1 - 1 := rfl
  rw [BitVec.toNat_and, h1, h2, Nat.and_two_pow_sub_one_eq_mod, wrap_u32']
  omega
set_option maxRecDepth 100000 in
theorem wireSum {w : World} {v : Value} {l : List Int} (hr : RSl byteEnc 1 w [] v l) : Spec Go.Proofs.Try.prog 22 #[v] w [] (fun u _ => u = .int .u32 (sumF l)) := by
  have hsm := hr.small
  refine Spec.enter (fn := Go.Proofs.Try.f22) (n := 30) [v] Go.Proofs.Try.func22 (by kernel_rfl) rfl Go.Proofs.Try.ntmps22 Go.Proofs.Try.results22 rfl (Own.nil _) ?_
  refine JC.rs ?_
  refine Seq.p rfl Ev.assign ?_
  refine Seq.nil ?_
  refine JC.rs ?_
  refine Seq.p rfl Ev.assign ?_
  refine Seq.nil ?_
  refine JC.seq ?_
  refine JC.rs ?_
  refine Seq.p rfl Ev.move ?_
  refine Seq.p rfl (Ev.lenSl sl.sl_uint8 (hr := hr.r)) ?_
  refine Seq.p rfl Ev.move ?_
  refine Seq.nil ?_
  refine JC.blk ?_
  refine JC.loop (α := Nat) (I := fun i e1 H1 => Has [3, 5, 8, 9, 10, 11, 12, 13, 14, 15, 16, 17, 18, 19, 20, 21, 22, 23, 24, 25, 26, 27] [(3, .int .u32 (crcL (l.take i))), (8, .int .i64 (i : Int))] _ e1 ∧ H1 = _ ∧ i ≤ l.length) (μ := fun i => l.length - i) 0 ⟨Has.mk Off.refl (allLook_cons (by repeat (first | exact Look.here | apply Look.there (hne := rfl) | exact Look.const | apply Look.mix rfl | exact Look.arg0 | apply Look.args | exact Look.func)) (allLook_cons (by repeat (first | exact Look.here | apply Look.there (hne := rfl) | exact Look.const | apply Look.mix rfl | exact Look.arg0 | apply Look.args | exact Look.func)) allLook_nil)), rfl, by omega⟩ ?_
  rintro i _ _ ⟨⟨u, rfl⟩, rfl, hi⟩; dsimp only [setL]
  refine JC.rs ?_
  refine Seq.p rfl Ev.lt ?_
  refine Seq.nil ?_
  refine JC.seq ?_
  first | refine JC.c (ht := fun c9 => ?_) (hf := fun c9 => ?_) | refine JC.cb (ht := fun c9 => ?_) (hf := fun c9 => ?_)
  · -- then_t9
    have hi2 : i < l.length := by omega
    have hrg := crcL_range (l.take i)
    have hsn := crcL_snoc hi2
    generalize crcL (l.take i) = c at hrg hsn
    refine JC.skip ?_
    refine JC.seq ?_
    refine JC.blk ?_
    refine JC.rs ?_
    refine Seq.p rfl (Ev.iaN sl.sl_uint8 (hr := hr.r)) ?_
    refine Seq.p rfl (Ev.ldE1 sc.uint8 (hr := hr.r)) ?_
    refine Seq.p rfl Ev.assign ?_
    refine Seq.nil ?_
    refine JC.rs ?_
    refine Seq.p rfl Ev.move ?_
    refine Seq.p rfl Ev.move ?_
    refine Seq.p rfl (Ev.convU32W it.uint8 it.uint32) ?_
    refine Seq.p rfl (Ev.bits (k := .u32) (· ^^^ ·) (.inr (.inr (.inl ⟨rfl, rfl⟩)))) ?_
    have hc0 := xor32_range c (l[i]! % 4294967296)
    refine Seq.p rfl Ev.assign ?_
    refine Seq.nil ?_
    refine JC.rs ?_
    refine Seq.p rfl Ev.move ?_
    refine Seq.nil ?_
    refine JC.blk ?_
    refine JC.loop (α := Nat) (I := fun j e1 H1 => Has [3, 16, 17, 18, 19, 20, 21, 22, 23, 24, 25, 26] [(3, .int .u32 (crcBits (xor32 c (l[i]! % 4294967296)) j)), (16, .int .i64 (j : Int))] _ e1 ∧ H1 = _ ∧ j ≤ 8) (μ := fun j => 8 - j) 0 ⟨Has.mk Off.refl (allLook_cons (by repeat (first | exact Look.here | apply Look.there (hne := rfl) | exact Look.const | apply Look.mix rfl | exact Look.arg0 | apply Look.args | exact Look.func)) (allLook_cons (by repeat (first | exact Look.here | apply Look.there (hne := rfl) | exact Look.const | apply Look.mix rfl | exact Look.arg0 | apply Look.args | exact Look.func)) allLook_nil)), rfl, by omega⟩ ?_
    rintro j _ _ ⟨⟨u, rfl⟩, rfl, hj⟩; dsimp only [setL]
    refine JC.rs ?_
    refine Seq.p rfl Ev.lt ?_
    refine Seq.nil ?_
    refine JC.seq ?_
    first | refine JC.c (ht := fun c17 => ?_) (hf := fun c17 => ?_) | refine JC.cb (ht := fun c17 => ?_) (hf := fun c17 => ?_)
    · -- then_t17
      have hb := crcBits_range hc0 j
      have hs : crcBits (xor32 c (l[i]! % 4294967296)) (j + 1) = crcBit (crcBits (xor32 c (l[i]! % 4294967296)) j) := rfl
      generalize crcBits (xor32 c (l[i]! % 4294967296)) j = d at hb hs
      refine JC.skip ?_
      refine JC.seq ?_
      refine JC.blk ?_
      refine JC.rs ?_
      refine Seq.p rfl Ev.move ?_
      refine Seq.p rfl (Ev.bits (k := .u32) (· &&& ·) (.inl ⟨rfl, rfl⟩)) ?_
      rw [and32_one hb]
      refine Seq.p rfl Ev.eq ?_
      refine Seq.nil ?_
      first | refine JC.c (ht := fun c20 => ?_) (hf := fun c20 => ?_) | refine JC.cb (ht := fun c20 => ?_) (hf := fun c20 => ?_)
      · -- then_t20
        refine JC.reg ?_
        refine Seq.p rfl Ev.move ?_
        refine Seq.p rfl Ev.shrW ?_
        refine Seq.p rfl (Ev.bits (k := .u32) (· ^^^ ·) (.inr (.inr (.inl ⟨rfl, rfl⟩)))) ?_
        refine Seq.p rfl Ev.assign ?_
        refine Seq.nil ?_
        refine JC.reg ?_
        refine Seq.p rfl (by first | exact Ev.inc | exact Ev.add) ?_
        refine Seq.p rfl Ev.move ?_
        refine Seq.nil ?_
        have e1 : (2 : Int) ^ (min (Int.toNat 1) IntKind.u32.bits) = 2 := rfl
        have hd : crcBit d = if d % 2 = 1 then xor32 (d / 2) 3988292384 else d / 2 := rfl
        first | rw [if_pos c20] at hd | rw [if_neg c20] at hd
        rw [e1]
        exact ⟨j + 1, _, Part.refl _, ⟨Has.mk (by repeat (first | refine Off.upd ?_ rfl | exact Off.mix | refine Off.mix2 ?_ rfl | exact Off.refl)) (allLook_cons (by rw [hs, hd]; exact (by repeat (first | exact Look.here | apply Look.there (hne := rfl) | exact Look.const | apply Look.mix rfl | exact Look.arg0 | apply Look.args | exact Look.func))) (allLook_cons (by repeat (first | exact Look.here | apply Look.there (hne := rfl) | exact Look.const | apply Look.mix rfl | exact Look.arg0 | apply Look.args | exact Look.func)) allLook_nil)), rfl, by omega⟩, by omega⟩
      · -- else_t20
        refine JC.reg ?_
        refine Seq.p rfl Ev.move ?_
        refine Seq.p rfl Ev.shrW ?_
        refine Seq.p rfl Ev.assign ?_
        refine Seq.nil ?_
        refine JC.reg ?_
        refine Seq.p rfl (by first | exact Ev.inc | exact Ev.add) ?_
        refine Seq.p rfl Ev.move ?_
        refine Seq.nil ?_
        have e1 : (2 : Int) ^ (min (Int.toNat 1) IntKind.u32.bits) = 2 := rfl
        have hd : crcBit d = if d % 2 = 1 then xor32 (d / 2) 3988292384 else d / 2 := rfl
        first | rw [if_pos c20] at hd | rw [if_neg c20] at hd
        rw [e1]
        exact ⟨j + 1, _, Part.refl _, ⟨Has.mk (by repeat (first | refine Off.upd ?_ rfl | exact Off.mix | refine Off.mix2 ?_ rfl | exact Off.refl)) (allLook_cons (by rw [hs, hd]; exact (by repeat (first | exact Look.here | apply Look.there (hne := rfl) | exact Look.const | apply Look.mix rfl | exact Look.arg0 | apply Look.args | exact Look.func))) (allLook_cons (by repeat (first | exact Look.here | apply Look.there (hne := rfl) | exact Look.const | apply Look.mix rfl | exact Look.arg0 | apply Look.args | exact Look.func)) allLook_nil)), rfl, by omega⟩, by omega⟩
    · -- else_t17
      obtain rfl : j = 8 := by omega
      refine JC.exit ?_ -- 2
      refine JC.reg ?_
      refine Seq.p rfl (by first | exact Ev.inc | exact Ev.add) ?_
      refine Seq.p rfl Ev.move ?_
      refine Seq.nil ?_
      exact ⟨i + 1, _, Part.refl _, ⟨Has.mk (by repeat (first | refine Off.upd ?_ rfl | exact Off.mix | refine Off.mix2 ?_ rfl | exact Off.refl)) (allLook_cons (by rw [hsn]; exact (by repeat (first | exact Look.here | apply Look.there (hne := rfl) | exact Look.const | apply Look.mix rfl | exact Look.arg0 | apply Look.args | exact Look.func))) (allLook_cons (by repeat (first | exact Look.here | apply Look.there (hne := rfl) | exact Look.const | apply Look.mix rfl | exact Look.arg0 | apply Look.args | exact Look.func)) allLook_nil)), rfl, by omega⟩, by omega⟩
  · -- else_t9
    obtain rfl : i = l.length := by omega
    refine JC.exit ?_ -- 0
    refine JC.rs ?_
    refine Seq.p rfl Ev.move ?_
    refine Seq.p rfl Ev.xor32 ?_
    refine Seq.p rfl Ev.assign ?_
    refine Seq.nil ?_
    refine JC.ret ?_
    -- return 0
    show retQ _ _ _ _ _ _ _ _
    refine ret1 (hp := Part.nil _) (hpost := ?_)
    rw [List.take_length, sumF, xor32_comm]
    rfl
set_option maxRecDepth 100000 in
theorem refSum {w : World} {v : Value} {l : List Int} (hr : RSl byteEnc 1 w [] v l) : Spec Go.Proofs.Try.prog 25 #[v] w [] (fun u _ => u = .int .u32 (sumF l)) := by
  have hsm := hr.small
  refine Spec.enter (fn := Go.Proofs.Try.f25) (n := 34) [v] Go.Proofs.Try.func25 (by kernel_rfl) rfl Go.Proofs.Try.ntmps25 Go.Proofs.Try.results25 rfl (Own.nil _) ?_
  refine JC.rs ?_
  refine Seq.p rfl Ev.assign ?_
  refine Seq.nil ?_
  refine JC.rs ?_
  refine Seq.p rfl Ev.assign ?_
  refine Seq.nil ?_
  refine JC.seq ?_
  refine JC.rs ?_
  refine Seq.p rfl Ev.assign ?_
  refine Seq.nil ?_
  refine JC.blk ?_
  refine JC.loop (α := Nat) (I := fun i e1 H1 => Has [3, 4, 5, 6, 7, 8, 9, 10, 11, 12, 13, 14, 15, 16, 17, 18, 19, 20, 21, 22, 23, 24, 25, 26, 27, 28, 29, 30, 31] [(3, .int .u32 (crcL (l.take i))), (4, .int .i64 (i : Int))] _ e1 ∧ H1 = _ ∧ i ≤ l.length) (μ := fun i => l.length - i) 0 ⟨Has.mk Off.refl (allLook_cons (by repeat (first | exact Look.here | apply Look.there (hne := rfl) | exact Look.const | apply Look.mix rfl | exact Look.arg0 | apply Look.args | exact Look.func)) (allLook_cons (by repeat (first | exact Look.here | apply Look.there (hne := rfl) | exact Look.const | apply Look.mix rfl | exact Look.arg0 | apply Look.args | exact Look.func)) allLook_nil)), rfl, by omega⟩ ?_
  rintro i _ _ ⟨⟨u, rfl⟩, rfl, hi⟩; dsimp only [setL]
  refine JC.seq ?_
  refine JC.rs ?_
  refine Seq.p rfl Ev.move ?_
  refine Seq.p rfl Ev.move ?_
  refine Seq.p rfl (Ev.lenSl sl.sl_uint8 (hr := hr.r)) ?_
  refine Seq.p rfl Ev.lt ?_
  refine Seq.nil ?_
  first | refine JC.c (ht := fun c10 => ?_) (hf := fun c10 => ?_) | refine JC.cb (ht := fun c10 => ?_) (hf := fun c10 => ?_)
  · -- then_t10
    have hi2 : i < l.length := by omega
    have hrg := crcL_range (l.take i)
    have hsn := crcL_snoc hi2
    generalize crcL (l.take i) = c at hrg hsn
    refine JC.skip ?_
    refine JC.seq ?_
    refine JC.blk ?_
    refine JC.rs ?_
    refine Seq.p rfl Ev.move ?_
    refine Seq.p rfl Ev.move ?_
    refine Seq.p rfl Ev.move ?_
    refine Seq.p rfl (Ev.iaN sl.sl_uint8 (hr := hr.r)) ?_
    refine Seq.p rfl (Ev.ldE1 sc.uint8 (hr := hr.r)) ?_
    refine Seq.p rfl (Ev.convU32W it.uint8 it.uint32) ?_
    refine Seq.p rfl (Ev.bits (k := .u32) (· ^^^ ·) (.inr (.inr (.inl ⟨rfl, rfl⟩)))) ?_
    have hc0 := xor32_range c (l[i]! % 4294967296)
    refine Seq.p rfl Ev.assign ?_
    refine Seq.nil ?_
    refine JC.rs ?_
    refine Seq.p rfl Ev.assign ?_
    refine Seq.nil ?_
    refine JC.blk ?_
    refine JC.loop (α := Nat) (I := fun j e1 H1 => Has [3, 5, 6, 20, 21, 22, 23, 24, 25, 26, 27, 28, 29, 30, 31] [(3, .int .u32 (crcBits (xor32 c (l[i]! % 4294967296)) j)), (5, .int .i64 (j : Int))] _ e1 ∧ H1 = _ ∧ j ≤ 8) (μ := fun j => 8 - j) 0 ⟨Has.mk Off.refl (allLook_cons (by repeat (first | exact Look.here | apply Look.there (hne := rfl) | exact Look.const | apply Look.mix rfl | exact Look.arg0 | apply Look.args | exact Look.func)) (allLook_cons (by repeat (first | exact Look.here | apply Look.there (hne := rfl) | exact Look.const | apply Look.mix rfl | exact Look.arg0 | apply Look.args | exact Look.func)) allLook_nil)), rfl, by omega⟩ ?_
    rintro j _ _ ⟨⟨u, rfl⟩, rfl, hj⟩; dsimp only [setL]
    refine JC.seq ?_
    refine JC.rs ?_
    refine Seq.p rfl Ev.move ?_
    refine Seq.p rfl Ev.lt ?_
    refine Seq.nil ?_
    first | refine JC.c (ht := fun c21 => ?_) (hf := fun c21 => ?_) | refine JC.cb (ht := fun c21 => ?_) (hf := fun c21 => ?_)
    · -- then_t21
      have hb := crcBits_range hc0 j
      have hs : crcBits (xor32 c (l[i]! % 4294967296)) (j + 1) = crcBit (crcBits (xor32 c (l[i]! % 4294967296)) j) := rfl
      generalize crcBits (xor32 c (l[i]! % 4294967296)) j = d at hb hs
      refine JC.skip ?_
      refine JC.seq ?_
      refine JC.blk ?_
      refine JC.rs ?_
      refine Seq.p rfl Ev.move ?_
      refine Seq.p rfl Ev.rem ?_
      refine Seq.p rfl Ev.eq ?_
      refine Seq.p rfl Ev.assign ?_
      refine Seq.nil ?_
      refine JC.rs ?_
      refine Seq.p rfl Ev.move ?_
      refine Seq.p rfl (Ev.quoW (k := .u32)) ?_
      have hq : IntKind.u32.wrap (d.tdiv 2) = d / 2 := by rw [Int.tdiv_eq_ediv_of_nonneg hb.1, wrap_u32 _ (by omega)]
      rw [hq]
      refine Seq.p rfl Ev.assign ?_
      refine Seq.nil ?_
      refine JC.rs ?_
      refine Seq.p rfl Ev.move ?_
      refine Seq.nil ?_
      first | refine JC.c (ht := fun c29 => ?_) (hf := fun c29 => ?_) | refine JC.cb (ht := fun c29 => ?_) (hf := fun c29 => ?_)
      · -- then_t29
        refine JC.reg ?_
        refine Seq.p rfl Ev.move ?_
        refine Seq.p rfl (Ev.bits (k := .u32) (· ^^^ ·) (.inr (.inr (.inl ⟨rfl, rfl⟩)))) ?_
        refine Seq.p rfl Ev.assign ?_
        refine Seq.nil ?_
        refine JC.reg ?_
        refine Seq.p rfl Ev.move ?_
        refine Seq.p rfl (by first | exact Ev.inc | exact Ev.add) ?_
        refine Seq.p rfl Ev.assign ?_
        refine Seq.nil ?_
        have hd : crcBit d = if d % 2 = 1 then xor32 (d / 2) 3988292384 else d / 2 := rfl
        first | rw [if_pos c29] at hd | rw [if_neg c29] at hd
        exact ⟨j + 1, _, Part.refl _, ⟨Has.mk (by repeat (first | refine Off.upd ?_ rfl | exact Off.mix | refine Off.mix2 ?_ rfl | exact Off.refl)) (allLook_cons (by rw [hs, hd]; exact (by repeat (first | exact Look.here | apply Look.there (hne := rfl) | exact Look.const | apply Look.mix rfl | exact Look.arg0 | apply Look.args | exact Look.func))) (allLook_cons (by repeat (first | exact Look.here | apply Look.there (hne := rfl) | exact Look.const | apply Look.mix rfl | exact Look.arg0 | apply Look.args | exact Look.func)) allLook_nil)), rfl, by omega⟩, by omega⟩
      · -- else_t29
        refine JC.skip ?_
        refine JC.reg ?_
        refine Seq.p rfl Ev.move ?_
        refine Seq.p rfl (by first | exact Ev.inc | exact Ev.add) ?_
        refine Seq.p rfl Ev.assign ?_
        refine Seq.nil ?_
        have hd : crcBit d = if d % 2 = 1 then xor32 (d / 2) 3988292384 else d / 2 := rfl
        first | rw [if_pos c29] at hd | rw [if_neg c29] at hd
        exact ⟨j + 1, _, Part.refl _, ⟨Has.mk (by repeat (first | refine Off.upd ?_ rfl | exact Off.mix | refine Off.mix2 ?_ rfl | exact Off.refl)) (allLook_cons (by rw [hs, hd]; exact (by repeat (first | exact Look.here | apply Look.there (hne := rfl) | exact Look.const | apply Look.mix rfl | exact Look.arg0 | apply Look.args | exact Look.func))) (allLook_cons (by repeat (first | exact Look.here | apply Look.there (hne := rfl) | exact Look.const | apply Look.mix rfl | exact Look.arg0 | apply Look.args | exact Look.func)) allLook_nil)), rfl, by omega⟩, by omega⟩
    · -- else_t21
      obtain rfl : j = 8 := by omega
      refine JC.exit ?_ -- 2
      refine JC.reg ?_
      refine Seq.p rfl Ev.move ?_
      refine Seq.p rfl (by first | exact Ev.inc | exact Ev.add) ?_
      refine Seq.p rfl Ev.assign ?_
      refine Seq.nil ?_
      exact ⟨i + 1, _, Part.refl _, ⟨Has.mk (by repeat (first | refine Off.upd ?_ rfl | exact Off.mix | refine Off.mix2 ?_ rfl | exact Off.refl)) (allLook_cons (by rw [hsn]; exact (by repeat (first | exact Look.here | apply Look.there (hne := rfl) | exact Look.const | apply Look.mix rfl | exact Look.arg0 | apply Look.args | exact Look.func))) (allLook_cons (by repeat (first | exact Look.here | apply Look.there (hne := rfl) | exact Look.const | apply Look.mix rfl | exact Look.arg0 | apply Look.args | exact Look.func)) allLook_nil)), rfl, by omega⟩, by omega⟩
  · -- else_t10
    obtain rfl : i = l.length := by omega
    refine JC.exit ?_ -- 0
    refine JC.rs ?_
    refine Seq.p rfl Ev.move ?_
    refine Seq.p rfl (Ev.bits (k := .u32) (· ^^^ ·) (.inr (.inr (.inl ⟨rfl, rfl⟩)))) ?_
    refine Seq.p rfl Ev.assign ?_
    refine Seq.nil ?_
    refine JC.ret ?_
    -- return 0
    show retQ _ _ _ _ _ _ _ _
    refine ret1 (hp := Part.nil _) (hpost := ?_)
    rw [List.take_length]
    rfl
end Go.Rx
