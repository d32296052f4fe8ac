/- Numbers taken out of bytes. -/
import Derived.Test.YtkmakbkchnibkaaV7
namespace Go.Rx
open Go Go.RowKit
set_option linter.unusedVariables false
set_option linter.unusedSimpArgs false
/-- The number of so many bytes, the lowest first. -/
def leN : List Int → Int
  | [] => 0
  | b :: r => b + 256 * leN r
def isBytes (l : List Int) : Prop := ∀ n ∈ l, 0 ≤ n ∧ n ≤ 255
theorem isBytes.drop {l : List Int} (h : isBytes l) (k : Nat) : isBytes (l.drop k) := fun n hn => h n (List.mem_of_mem_drop hn)
theorem isBytes.take {l : List Int} (h : isBytes l) (k : Nat) : isBytes (l.take k) := fun n hn => h n (List.mem_of_mem_take hn)
theorem isBytes.at {l : List Int} (h : isBytes l) {k : Nat} (hk : k < l.length) : 0 ≤ l[k]! ∧ l[k]! ≤ 255 := by
  rw [getElem!_pos l k hk]
  exact h _ (List.getElem_mem hk)
theorem p256 {a b : Nat} (h : a ≤ b) : (256 : Int) ^ a ≤ 256 ^ b := by
  obtain ⟨c, rfl⟩ := Nat.le.dest h
  clear h
  induction c with
  | zero => exact Int.le_refl _
  | succ c ih =>
    rw [← Nat.add_assoc, Int.pow_succ]
    have : 0 ≤ (256 : Int) ^ (a + c) := Int.pow_nonneg (by omega)
    omega
theorem leN_range {l : List Int} (h : isBytes l) : 0 ≤ leN l ∧ leN l < 256 ^ l.length := by
  induction l with
  | nil => simp [leN]
  | cons b r ih =>
    have h1 := h b (List.mem_cons_self ..)
    have h2 := ih (fun n hn => h n (List.mem_cons_of_mem _ hn))
    have h3 : (256 : Int) ^ (r.length + 1) = 256 ^ r.length * 256 := Int.pow_succ _ _
    simp only [leN, List.length_cons]
    omega
theorem leN_append (a b : List Int) : leN (a ++ b) = leN a + 256 ^ a.length * leN b := by
  induction a with
  | nil => simp [leN]
  | cons x a ih =>
    have h3 : (256 : Int) ^ (a.length + 1) = 256 ^ a.length * 256 := Int.pow_succ _ _
    simp only [List.cons_append, leN, ih, List.length_cons, h3]
    rw [Int.mul_add, ← Int.add_assoc, ← Int.mul_assoc, Int.mul_comm 256 (256 ^ a.length)]
theorem leN_small {l : List Int} (h : isBytes l) {k : Nat} (hk : l.length ≤ k) (h8 : k ≤ 8) : 0 ≤ leN l ∧ leN l ≤ 18446744073709551615 := by
  have h1 := leN_range h
  have h2 : (256 : Int) ^ l.length ≤ 256 ^ 8 := p256 (by omega)
  have h3 : (256 : Int) ^ 8 = 18446744073709551616 := by decide
  omega
theorem or64_add {a b : Int} {i : Nat} (hi : i < 8) (ha : 0 ≤ a ∧ a < 256 ^ i) (hb : 0 ≤ b ∧ b ≤ 255) :
    IntKind.u64.wrap ((BitVec.ofInt IntKind.u64.bits a ||| BitVec.ofInt IntKind.u64.bits (b * 256 ^ i)).toNat) = a + 256 ^ i * b := by
  have hp : (256 : Int) ^ i = ((2 ^ (8 * i) : Nat) : Int) := by
    rw [Int.natCast_pow, Int.pow_mul]
    rfl
  have hpos : 0 < 2 ^ (8 * i) := Nat.pow_pos (by omega)
  have hle : 2 ^ (8 * i) * 256 ≤ 18446744073709551616 := by
    have : 2 ^ (8 * i) * 256 = 2 ^ (8 * i + 8) := by rw [Nat.pow_add]
    rw [this]
    exact Nat.pow_le_pow_right (n := 2) (by omega) (show 8 * i + 8 ≤ 64 by omega)
  obtain ⟨A, rfl⟩ := Int.eq_ofNat_of_zero_le ha.1
  obtain ⟨B, rfl⟩ := Int.eq_ofNat_of_zero_le hb.1
  rw [hp] at ha ⊢
  have hA : A < 2 ^ (8 * i) := by have := ha.2; omega
  have hB : B ≤ 255 := by have := hb.2; omega
  have hBm : B * 2 ^ (8 * i) ≤ 255 * 2 ^ (8 * i) := Nat.mul_le_mul_right _ hB
  have t : ∀ n : Nat, n < 18446744073709551616 → (BitVec.ofInt IntKind.u64.bits (n : Int)).toNat = n := by
    intro n hn
    rw [BitVec.toNat_ofInt]
    have : ((2 ^ IntKind.u64.bits : Nat) : Int) = 18446744073709551616 := rfl
    rw [this]
    omega
  have e1 : ((B : Int) * ((2 ^ (8 * i) : Nat) : Int)) = ((B * 2 ^ (8 * i) : Nat) : Int) := by simp
  rw [e1, BitVec.toNat_or, t A (by omega), t _ (by omega), wrap_u64']
  have e2 : A ||| B * 2 ^ (8 * i) = 2 ^ (8 * i) * B + A := by
    rw [Nat.or_comm, Nat.mul_comm, ← Nat.two_pow_add_eq_or_of_lt hA]
  rw [e2]
  have e3 : (((2 ^ (8 * i) * B + A : Nat) : Int)) = ((2 ^ (8 * i) : Nat) : Int) * (B : Int) + (A : Int) := by simp
  have e4 : 2 ^ (8 * i) * B + A < 18446744073709551616 := by
    rw [Nat.mul_comm]; omega
  omega
theorem shl_byte {b : Int} {i : Nat} (hb : 0 ≤ b ∧ b ≤ 255) (hi : i < 8) : IntKind.u64.wrap (b % 18446744073709551616 * 2 ^ (min (8 * (i : Int)).toNat IntKind.u64.bits)) = b * 256 ^ i := by
  have e1 : min (8 * (i : Int)).toNat IntKind.u64.bits = 8 * i := by
    have : IntKind.u64.bits = 64 := rfl
    omega
  have e2 : b % 18446744073709551616 = b := by omega
  have e3 : (2 : Int) ^ (8 * i) = 256 ^ i := by rw [Int.pow_mul]; rfl
  have h2 : (256 : Int) ^ i ≤ 256 ^ 7 := p256 (by omega)
  have h3 : (256 : Int) ^ 7 = 72057594037927936 := by decide
  have h4 : 0 ≤ (256 : Int) ^ i := Int.pow_nonneg (by omega)
  rw [e1, e2, e3, wrap_u64]
  constructor
  · exact Int.mul_nonneg hb.1 h4
  · have : b * 256 ^ i ≤ 255 * 256 ^ i := Int.mul_le_mul_of_nonneg_right hb.2 h4
    omega
theorem leN_snoc {l : List Int} {i : Nat} (hi : i < l.length) : leN (l.take (i + 1)) = leN (l.take i) + 256 ^ i * l[i]! := by
  rw [List.take_succ_eq_append_getElem hi, leN_append, List.length_take, Nat.min_eq_left (by omega), getElem!_pos l i hi]
  simp [leN]
theorem leN_cons {l : List Int} {i : Nat} (hi : i < l.length) : leN (l.drop i) = l[i]! + 256 * leN (l.drop (i + 1)) := by
  rw [List.drop_eq_getElem_cons hi, getElem!_pos l i hi]
  rfl
set_option maxRecDepth 100000 in
theorem refGet {w : World} {v : Value} {l : List Int} {a k : Nat} (hr : RSl byteEnc 1 w [] v l) (hB : isBytes l) (hk : k ≤ 8) (ha : a + k ≤ l.length) :
    Spec Go.Proofs.Try.prog 24 #[v, .int .i64 (a : Int), .int .i64 (k : Int)] w [] (fun u _ => u = .int .u64 (leN ((l.drop a).take k))) := by
  have hsm := hr.small
  have hkl : ((l.drop a).take k).length = k := by rw [List.length_take, List.length_drop]; omega
  have hB2 : isBytes ((l.drop a).take k) := (hB.drop a).take k
  have hat : ∀ j, j < k → ((l.drop a).take k)[j]! = l[a + j]! := by
    intro j hj
    rw [getElem!_pos _ j (by omega), getElem!_pos _ (a + j) (by omega), List.getElem_take, List.getElem_drop]
  refine Spec.enter (fn := Go.Proofs.Try.f24) (n := 26) [v, .int .i64 (a : Int), .int .i64 (k : Int)] Go.Proofs.Try.func24 (by kernel_rfl) rfl Go.Proofs.Try.ntmps24 Go.Proofs.Try.results24 rfl (Own.nil _) ?_
  generalize hq : (l.drop a).take k = q at hkl hB2 hat
  refine JC.rs ?_
  refine Seq.p rfl Ev.assign ?_
  refine Seq.nil ?_
  refine JC.rs ?_
  refine Seq.p rfl Ev.assign ?_
  refine Seq.nil ?_
  refine JC.seq ?_
  refine JC.rs ?_
  refine Seq.p rfl Ev.move ?_
  refine Seq.p rfl Ev.sub ?_
  refine Seq.p rfl Ev.assign ?_
  refine Seq.nil ?_
  refine JC.blk ?_
  refine JC.loop (α := Nat) (I := fun j e1 H1 => Has [7, 8, 11, 12, 13, 14, 15, 16, 17, 18, 19, 20, 21, 22, 23, 24] [(7, .int .u64 (leN (q.drop j))), (8, .int .i64 ((j : Int) - 1))] _ e1 ∧ H1 = _ ∧ j ≤ k) (μ := fun j => j) k ⟨Has.mk Off.refl (allLook_cons (by rw [List.drop_eq_nil_of_le (by omega)]; exact (by repeat (first | exact Look.here | apply Look.there (hne := rfl) | exact Look.const | apply Look.mix rfl | exact Look.arg0 | apply Look.args | exact Look.func))) (allLook_cons (by repeat (first | exact Look.here | apply Look.there (hne := rfl) | exact Look.const | apply Look.mix rfl | exact Look.arg0 | apply Look.args | exact Look.func)) allLook_nil)), rfl, by omega⟩ ?_
  rintro j _ _ ⟨⟨u, rfl⟩, rfl, hj⟩; dsimp only [setL]
  refine JC.seq ?_
  refine JC.rs ?_
  refine Seq.p rfl Ev.move ?_
  refine Seq.p rfl Ev.ge ?_
  refine Seq.nil ?_
  first | refine JC.c (ht := fun c12 => ?_) (hf := fun c12 => ?_) | refine JC.cb (ht := fun c12 => ?_) (hf := fun c12 => ?_)
  · -- then_t12
    have hj1 : 1 ≤ j := by omega
    have hc := leN_cons (l := q) (i := j - 1) (by omega)
    rw [show j - 1 + 1 = j by omega] at hc
    have hrg := leN_small (hB2.drop j) (k := 7) (by rw [List.length_drop]; omega) (by omega)
    have hrg1 := leN_small (hB2.drop (j - 1)) (k := 8) (by rw [List.length_drop]; omega) (by omega)
    have hbt := hB2.at (k := j - 1) (by omega)
    have haj := hat (j - 1) (by omega)
    refine JC.skip ?_
    refine JC.seq ?_
    refine JC.blk ?_
    refine JC.reg ?_
    refine Seq.p rfl Ev.move ?_
    refine Seq.p rfl (Ev.mulU) ?_
    refine Seq.p rfl Ev.move ?_
    refine Seq.p rfl Ev.move ?_
    refine Seq.p rfl Ev.move ?_
    refine Seq.p rfl (Ev.add) ?_
    rw [show (a : Int) + ((j : Int) - 1) = ((a + (j - 1) : Nat) : Int) by omega]
    refine Seq.p rfl (Ev.iaN sl.sl_uint8 (hr := hr.r)) ?_
    refine Seq.p rfl (Ev.ldE1 sc.uint8 (hr := hr.r)) ?_
    refine Seq.p rfl (Ev.convU64W it.uint8 it.uint64) ?_
    refine Seq.p rfl (Ev.addU) ?_
    rw [← haj]
    refine Seq.p rfl Ev.assign ?_
    refine Seq.nil ?_
    refine JC.reg ?_
    refine Seq.p rfl Ev.move ?_
    refine Seq.p rfl Ev.sub ?_
    refine Seq.p rfl Ev.assign ?_
    refine Seq.nil ?_
    exact ⟨j - 1, _, Part.refl _, ⟨Has.mk (by repeat (first | refine Off.upd ?_ rfl | exact Off.mix | refine Off.mix2 ?_ rfl | exact Off.refl)) (allLook_cons (by rw [show leN (q.drop (j - 1)) = (leN (q.drop j) * 256 % 18446744073709551616 + q[j - 1]! % 18446744073709551616) % 18446744073709551616 by omega]; exact (by repeat (first | exact Look.here | apply Look.there (hne := rfl) | exact Look.const | apply Look.mix rfl | exact Look.arg0 | apply Look.args | exact Look.func))) (allLook_cons (by rw [show ((j - 1 : Nat) : Int) - 1 = (j : Int) - 1 - 1 by omega]; exact (by repeat (first | exact Look.here | apply Look.there (hne := rfl) | exact Look.const | apply Look.mix rfl | exact Look.arg0 | apply Look.args | exact Look.func))) allLook_nil)), rfl, by omega⟩, by omega⟩
  · -- else_t12
    obtain rfl : j = 0 := by omega
    refine JC.exit ?_ -- 0
    refine JC.rs ?_
    refine Seq.p rfl Ev.move ?_
    refine Seq.p rfl Ev.assign ?_
    refine Seq.nil ?_
    refine JC.ret ?_
    -- return 0
    show retQ _ _ _ _ _ _ _ _
    refine ret1 (hp := Part.nil _) (hpost := ?_)
    rfl
set_option maxRecDepth 100000 in
theorem snapNum {w : World} {v : Value} {l : List Int} {b k : Nat} (hr : RSl byteEnc 1 w [.box b 53 [v]] v l) (hB : isBytes l) (hk : k ≤ 8) (hkl : k ≤ l.length) (ho : Own w [.box b 53 [v]]) :
    Spec Go.Proofs.Try.prog 21 #[.pointer (some ⟨b, 0, none⟩), .int .i64 (k : Int)] w [.box b 53 [v]] (fun u N => ∃ c', N = [c'] ∧ u = .int .u64 (leN (l.take k)) ∧ c' = .box b 53 [subSl v k l.length 1]) := by
  have hsm := hr.small
  obtain ⟨A, c, rfl, _, _⟩ := hr.shape
  refine Spec.enter (fn := Go.Proofs.Try.f21) (n := 35) [.pointer (some ⟨b, 0, none⟩), .int .i64 (k : Int)] Go.Proofs.Try.func21 (by kernel_rfl) rfl Go.Proofs.Try.ntmps21 Go.Proofs.Try.results21 rfl ho ?_
  refine JC.rs ?_
  refine Seq.p rfl Ev.assign ?_
  refine Seq.nil ?_
  refine JC.rs ?_
  refine Seq.p rfl Ev.assign ?_
  refine Seq.nil ?_
  refine JC.seq ?_
  refine JC.rs ?_
  refine Seq.p rfl Ev.move ?_
  refine Seq.p rfl Ev.move ?_
  refine Seq.nil ?_
  refine JC.blk ?_
  refine JC.loop (α := Nat) (I := fun i e1 H1 => Has [5, 6, 8, 9, 10, 11, 12, 13, 14, 15, 16, 17, 18, 19, 20, 21, 22, 23, 24] [(5, .int .u64 (leN (l.take i))), (8, .int .i64 (i : Int))] _ e1 ∧ H1 = _ ∧ i ≤ k) (μ := fun i => k - i) 0 ⟨Has.mk Off.refl (allLook_cons (by repeat (first | exact Look.here | apply Look.there (hne := rfl) | exact Look.const | apply Look.mix rfl | exact Look.arg0 | apply Look.args | exact Look.func)) (allLook_cons (by repeat (first | exact Look.here | apply Look.there (hne := rfl) | exact Look.const | apply Look.mix rfl | exact Look.arg0 | apply Look.args | exact Look.func)) allLook_nil)), rfl, by omega⟩ ?_
  rintro i _ _ ⟨⟨u, rfl⟩, rfl, hi⟩; dsimp only [setL]
  refine JC.rs ?_
  refine Seq.p rfl Ev.lt ?_
  refine Seq.nil ?_
  refine JC.seq ?_
  first | refine JC.c (ht := fun c9 => ?_) (hf := fun c9 => ?_) | refine JC.cb (ht := fun c9 => ?_) (hf := fun c9 => ?_)
  · -- then_t9
    have hi2 : i < k := by omega
    have hbt := hB.at (k := i) (by omega)
    have hsn := leN_snoc (l := l) (i := i) (by omega)
    have hrg := leN_range (hB.take i)
    rw [List.length_take, Nat.min_eq_left (by omega)] at hrg
    refine JC.skip ?_
    refine JC.seq ?_
    refine JC.blk ?_
    refine JC.rs ?_
    refine Seq.p rfl Ev.move ?_
    refine Seq.p rfl Ev.assign ?_
    refine Seq.nil ?_
    refine JC.reg ?_
    refine Seq.p rfl Ev.move ?_
    refine Seq.p rfl Ev.move ?_
    refine Seq.p rfl Ev.nilP ?_
    refine Seq.p rfl (Ev.faB fd.snapshot_reader_0) ?_
    refine Seq.p rfl (Ev.ldB sc.sl_uint8) ?_
    refine Seq.p rfl Ev.move ?_
    refine Seq.p rfl (Ev.iaN sl.sl_uint8 (hr := hr.r)) ?_
    refine Seq.p rfl (Ev.ldE1 sc.uint8 (hr := hr.r)) ?_
    refine Seq.p rfl (Ev.convU64W it.uint8 it.uint64) ?_
    refine Seq.p rfl Ev.move ?_
    refine Seq.p rfl Ev.mul ?_
    refine Seq.p rfl (Ev.shlW) ?_
    rw [shl_byte hbt (show i < 8 by omega)]
    refine Seq.p rfl (Ev.bits (k := .u64) (· ||| ·) (.inr (.inl ⟨rfl, rfl⟩))) ?_
    rw [or64_add (show i < 8 by omega) hrg hbt, ← hsn]
    refine Seq.p rfl Ev.assign ?_
    refine Seq.nil ?_
    refine JC.reg ?_
    refine Seq.p rfl (by first | exact Ev.inc | exact Ev.add) ?_
    refine Seq.p rfl Ev.move ?_
    refine Seq.nil ?_
    exact ⟨i + 1, _, Part.refl _, ⟨Has.mk (by repeat (first | refine Off.upd ?_ rfl | exact Off.mix | refine Off.mix2 ?_ rfl | exact Off.refl)) (allLook_cons (by repeat (first | exact Look.here | apply Look.there (hne := rfl) | exact Look.const | apply Look.mix rfl | exact Look.arg0 | apply Look.args | exact Look.func)) (allLook_cons (by repeat (first | exact Look.here | apply Look.there (hne := rfl) | exact Look.const | apply Look.mix rfl | exact Look.arg0 | apply Look.args | exact Look.func)) allLook_nil)), rfl, by omega⟩, by omega⟩
  · -- else_t9
    obtain rfl : i = k := by omega
    refine JC.exit ?_ -- 0
    refine JC.rs ?_
    refine Seq.p rfl Ev.move ?_
    refine Seq.p rfl Ev.move ?_
    refine Seq.p rfl Ev.nilP ?_
    refine Seq.p rfl (Ev.faB fd.snapshot_reader_0) ?_
    refine Seq.p rfl (Ev.ldB sc.sl_uint8) ?_
    refine Seq.p rfl Ev.move ?_
    refine Seq.p rfl (Ev.cut sl.sl_uint8 (hr := hr.r) (l := i) (h := l.length) (hlo := ⟨_, (by repeat (first | exact Look.here | apply Look.there (hne := rfl) | exact Look.const | apply Look.mix rfl | exact Look.arg0 | apply Look.args | exact Look.func))⟩) (hhi := rfl)) ?_
    refine Seq.p rfl Ev.nilP ?_
    refine Seq.p rfl (Ev.faB fd.snapshot_reader_0) ?_
    refine Seq.storeN [_] sz.sl_uint8 (k := ?_)
    refine Seq.nil ?_
    refine JC.rs ?_
    refine Seq.p rfl Ev.move ?_
    refine Seq.p rfl Ev.assign ?_
    refine Seq.nil ?_
    refine JC.ret ?_
    -- return 0
    show retQ _ _ _ _ _ _ _ _
    refine ret1 (hp := Part.refl _) (hpost := ?_)
    exact ⟨_, rfl, rfl, rfl⟩
end Go.Rx
