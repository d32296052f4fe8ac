/- A part of the proof: the text M1. -/
import Derived.Test.YtdfleghechbcpaaRxT
namespace Go.Rx
open Go Go.RowKit
set_option linter.unusedVariables false
set_option linter.unusedSimpArgs false
structure Input where
  kind : Int
  ckind : Int
  id : Int
  target : Int
  member : Int
  side : Int
  type : Int
  price : Int
  qty : Int
  peak : Int
  engine : Int
deriving DecidableEq, Inhabited
def Input.enc (i : Input) : List Value := [.int .i64 i.kind, .int .i64 i.ckind, .int .u64 i.id, .int .u64 i.target, .int .u32 i.member, .int .i64 i.side, .int .i64 i.type, .int .i64 i.price, .int .u64 i.qty, .int .u64 i.peak, .int .i64 i.engine]
structure Fld where
  tag : Int
  num : Int
  fits : Bool
deriving DecidableEq, Inhabited
def Fld.enc (f : Fld) : List Value := [.int .i64 f.tag, .int .u64 f.num, .bool f.fits]
structure RF where
  tag : Int
  most : Int
  word : Int
  shift : Int
deriving DecidableEq, Inhabited
def RF.enc (f : RF) : List Value := [.int .i64 f.tag, .int .u64 f.most, .int .i64 f.word, .int .i64 f.shift]
def wholeF (t n : Int) : Fld := ⟨t, n, true⟩
def upToF (t n m : Int) : Fld := ⟨t, n % 18446744073709551616, decide (0 ≤ n) && decide (n ≤ m)⟩
def s64 (n : Int) : Int := IntKind.i64.wrap n
def inputF (k : Int) (ms : List (Int × Int)) : Input :=
  if k = 4 then ⟨2, 0, 0, 0, 0, 0, 0, 0, 0, 0, s64 (iget ms 9001)⟩
  else ⟨1, s64 k, iget ms 11, iget ms 41, iget ms 1 % 4294967296, s64 (iget ms 54), s64 (iget ms 40), s64 (iget ms 44), iget ms 38, iget ms 210, 0⟩
def nameF (i : Input) : Int := if i.kind = 2 then 4 else if i.kind = 1 ∧ 1 ≤ i.ckind ∧ i.ckind ≤ 3 then i.ckind else 0
def valueF (i : Input) (t : Int) : Int × Bool :=
  if t = 11 then (i.id, true) else if t = 41 then (i.target, true) else if t = 1 then (i.member % 18446744073709551616, true) else if t = 38 then (i.qty, true) else if t = 210 then (i.peak, true)
  else
    let n := if t = 54 then i.side else if t = 40 then i.type else if t = 44 then i.price else if t = 9001 then i.engine else 0
    (n % 18446744073709551616, decide (0 ≤ n))
def withF (i : Input) (t n : Int) : Input :=
  if t = 11 then { i with id := n } else if t = 41 then { i with target := n } else if t = 1 then { i with member := n % 4294967296 } else if t = 38 then { i with qty := n } else if t = 210 then { i with peak := n }
  else if t = 54 then { i with side := s64 n } else if t = 40 then { i with type := s64 n } else if t = 44 then { i with price := s64 n } else if t = 9001 then { i with engine := s64 n } else i
def bareF (k : Int) : Input := if k = 4 then ⟨2, 0, 0, 0, 0, 0, 0, 0, 0, 0, 0⟩ else ⟨1, k, 0, 0, 0, 0, 0, 0, 0, 0, 0⟩
theorem msgWhole {w : World} {t n : Int} : Spec Go.Proofs.Try.prog 35 #[.int .i64 t, .int .u64 n] w [] (fun u _ => u = .agg (wholeF t n).enc.toArray) := by
  refine Spec.enter (fn := Go.Proofs.Try.f35) (n := 8) [.int .i64 t, .int .u64 n] Go.Proofs.Try.func35 (by kernel_rfl) rfl Go.Proofs.Try.ntmps35 Go.Proofs.Try.results35 rfl (Own.nil _) ?_
  refine JC.rs ?_
  refine Seq.alloc (cs := [_, _, _]) (hz := z.message_field) (k := ?_); intro b4
  refine Seq.nil ?_
  refine JC.rs ?_
  refine Seq.p rfl Ev.move ?_
  refine Seq.p rfl Ev.move ?_
  refine Seq.p rfl (Ev.buildN [_, _, _] pl.message_field z.message_field) ?_
  refine Seq.storeN [_, _, _] sz.message_field (k := ?_)
  refine Seq.nil ?_
  refine JC.ret ?_
  -- return 0
  show retQ _ _ _ _ _ _ _ _
  refine retB1 ag.message_field (hp := Part.nil _) (hpost := ?_)
  rfl
theorem msgUpTo {w : World} {t n m : Int} : Spec Go.Proofs.Try.prog 36 #[.int .i64 t, .int .i64 n, .int .i64 m] w [] (fun u _ => u = .agg (upToF t n m).enc.toArray) := by
  refine Spec.enter (fn := Go.Proofs.Try.f36) (n := 18) [.int .i64 t, .int .i64 n, .int .i64 m] Go.Proofs.Try.func36 (by kernel_rfl) rfl Go.Proofs.Try.ntmps36 Go.Proofs.Try.results36 rfl (Own.nil _) ?_
  refine JC.rs ?_
  refine Seq.alloc (cs := [_, _, _]) (hz := z.message_field) (k := ?_); intro b6
  refine Seq.nil ?_
  refine JC.rs ?_
  refine Seq.p rfl Ev.move ?_
  refine Seq.p rfl Ev.move ?_
  refine Seq.p rfl (Ev.convU64W it.int it.uint64) ?_
  refine Seq.p rfl Ev.move ?_
  refine Seq.p rfl Ev.ge ?_
  refine Seq.p rfl Ev.move ?_
  refine Seq.split (d := 12) (k := ?_)
  rintro (_|_) h12
  · try simp only [decide_eq_true_eq, decide_eq_false_iff_not] at h12
    refine Seq.gn rfl rfl rfl rfl ?_
    refine Seq.gn rfl rfl rfl rfl ?_
    refine Seq.gn rfl rfl rfl rfl ?_
    refine Seq.p rfl Ev.pickF ?_
    refine Seq.p rfl (Ev.buildN [_, _, _] pl.message_field z.message_field) ?_
    refine Seq.storeN [_, _, _] sz.message_field (k := ?_)
    refine Seq.nil ?_
    refine JC.ret ?_
    -- return 0
    show retQ _ _ _ _ _ _ _ _
    refine retB1 ag.message_field (hp := Part.nil _) (hpost := ?_)
    have h : ¬ (0 ≤ n) := h12
    rw [upToF, decide_eq_false h]
    rfl
  · try simp only [decide_eq_true_eq, decide_eq_false_iff_not] at h12
    refine Seq.gy rfl rfl rfl ?_
    refine Seq.p rfl Ev.move ?_
    refine Seq.gy rfl rfl rfl ?_
    refine Seq.p rfl Ev.move ?_
    refine Seq.gy rfl rfl rfl ?_
    refine Seq.p rfl Ev.le ?_
    refine Seq.p rfl Ev.pickT ?_
    refine Seq.p rfl (Ev.buildN [_, _, _] pl.message_field z.message_field) ?_
    refine Seq.storeN [_, _, _] sz.message_field (k := ?_)
    refine Seq.nil ?_
    refine JC.ret ?_
    -- return 1
    show retQ _ _ _ _ _ _ _ _
    refine retB1 ag.message_field (hp := Part.nil _) (hpost := ?_)
    have h : 0 ≤ n := h12
    rw [upToF, decide_eq_true h]
    rfl
set_option maxHeartbeats 1000000 in
theorem msgInputOf {w : World} {k : Int} {v : Value} {ms : List (Int × Int)} (hm : RMp .i64 .u64 w [] v ms) : Spec Go.Proofs.Try.prog 27 #[.int .u8 k, v] w [] (fun u _ => u = .agg (inputF k ms).enc.toArray) := by
  refine Spec.enter (fn := Go.Proofs.Try.f27) (n := 35) [.int .u8 k, v] Go.Proofs.Try.func27 (by kernel_rfl) rfl Go.Proofs.Try.ntmps27 Go.Proofs.Try.results27 rfl (Own.nil _) ?_
  refine JC.rs ?_
  refine Seq.alloc (cs := [_, _, _, _, _, _, _, _, _, _, _]) (hz := z.api_Input) (k := ?_); intro b4
  refine Seq.nil ?_
  refine JC.seq ?_
  refine JC.rs ?_
  refine Seq.p rfl Ev.move ?_
  refine Seq.p rfl Ev.eq ?_
  refine Seq.nil ?_
  first | refine JC.c (ht := fun c6 => ?_) (hf := fun c6 => ?_) | refine JC.cb (ht := fun c6 => ?_) (hf := fun c6 => ?_)
  · -- then_t6
    refine JC.rs ?_
    refine Seq.p rfl Ev.move ?_
    refine Seq.p rfl (Ev.mapI mp.m_int_uint64 z.uint64 hm.r) ?_
    refine Seq.p rfl (Ev.convW it.uint64 it.int) ?_
    refine Seq.p rfl (Ev.buildN [_, _, _, _, _, _, _, _, _, _, _] pl.api_Input z.api_Input) ?_
    refine Seq.storeN [_, _, _, _, _, _, _, _, _, _, _] sz.api_Input (k := ?_)
    refine Seq.nil ?_
    refine JC.ret ?_
    -- return 0
    show retQ _ _ _ _ _ _ _ _
    refine retB1 ag.api_Input (hp := Part.nil _) (hpost := ?_)
    rw [inputF, if_pos c6]
    rfl
  · -- else_t6
    refine JC.skip ?_
    refine JC.rs ?_
    refine Seq.p rfl Ev.move ?_
    refine Seq.p rfl (Ev.convW it.uint8 it.int) ?_
    refine Seq.p rfl Ev.move ?_
    refine Seq.p rfl (Ev.mapI mp.m_int_uint64 z.uint64 hm.r) ?_
    refine Seq.p rfl Ev.move ?_
    refine Seq.p rfl (Ev.mapI mp.m_int_uint64 z.uint64 hm.r) ?_
    refine Seq.p rfl Ev.move ?_
    refine Seq.p rfl (Ev.mapI mp.m_int_uint64 z.uint64 hm.r) ?_
    refine Seq.p rfl (Ev.convU32W it.uint64 it.uint32) ?_
    refine Seq.p rfl Ev.move ?_
    refine Seq.p rfl (Ev.mapI mp.m_int_uint64 z.uint64 hm.r) ?_
    refine Seq.p rfl (Ev.convW it.uint64 it.int) ?_
    refine Seq.p rfl Ev.move ?_
    refine Seq.p rfl (Ev.mapI mp.m_int_uint64 z.uint64 hm.r) ?_
    refine Seq.p rfl (Ev.convW it.uint64 it.int) ?_
    refine Seq.p rfl Ev.move ?_
    refine Seq.p rfl (Ev.mapI mp.m_int_uint64 z.uint64 hm.r) ?_
    refine Seq.p rfl (Ev.convW it.uint64 it.int) ?_
    refine Seq.p rfl Ev.move ?_
    refine Seq.p rfl (Ev.mapI mp.m_int_uint64 z.uint64 hm.r) ?_
    refine Seq.p rfl Ev.move ?_
    refine Seq.p rfl (Ev.mapI mp.m_int_uint64 z.uint64 hm.r) ?_
    refine Seq.p rfl (Ev.buildN [_, _, _, _, _, _, _, _, _] pl.api_Command z.api_Command) ?_
    refine Seq.p rfl (Ev.buildN [_, _, _, _, _, _, _, _, _, _, _] pl.api_Input z.api_Input) ?_
    refine Seq.storeN [_, _, _, _, _, _, _, _, _, _, _] sz.api_Input (k := ?_)
    refine Seq.nil ?_
    refine JC.ret ?_
    -- return 1
    show retQ _ _ _ _ _ _ _ _
    refine retB1 ag.api_Input (hp := Part.nil _) (hpost := ?_)
    rw [inputF, if_neg c6]
    rfl
set_option maxHeartbeats 1000000 in
theorem refName {w : World} {i : Input} : Spec Go.Proofs.Try.prog 17 #[.agg i.enc.toArray] w [] (fun u _ => u = .int .i64 (nameF i)) := by
  refine Spec.enter (fn := Go.Proofs.Try.f17) (n := 24) [.agg i.enc.toArray] Go.Proofs.Try.func17 (by kernel_rfl) rfl Go.Proofs.Try.ntmps17 Go.Proofs.Try.results17 rfl (Own.nil _) ?_
  refine JC.rs ?_
  refine Seq.box (cs := [_, _, _, _, _, _, _, _, _, _, _]) (k := ?_); intro b1
  refine Seq.p rfl Ev.assign ?_
  refine Seq.nil ?_
  refine JC.seq ?_
  refine JC.rs ?_
  refine Seq.p rfl (Ev.faB fd.api_Input_0) ?_
  refine Seq.p rfl (Ev.ldB sc.int) ?_
  refine Seq.p rfl Ev.eq ?_
  refine Seq.nil ?_
  first | refine JC.c (ht := fun c5 => ?_) (hf := fun c5 => ?_) | refine JC.cb (ht := fun c5 => ?_) (hf := fun c5 => ?_)
  · -- then_t5
    refine JC.rs ?_
    refine Seq.p rfl Ev.assign ?_
    refine Seq.nil ?_
    refine JC.ret ?_
    -- return 0
    show retQ _ _ _ _ _ _ _ _
    refine ret1 (hp := Part.nil _) (hpost := ?_)
    simp [nameF, *]
  · -- else_t5
    refine JC.skip ?_
    refine JC.seq ?_
    refine JC.rs ?_
    refine Seq.p rfl (Ev.faB fd.api_Input_0) ?_
    refine Seq.p rfl (Ev.ldB sc.int) ?_
    refine Seq.p rfl Ev.eq ?_
    refine Seq.p rfl Ev.move ?_
    refine Seq.split (d := 9) (k := ?_)
    rintro (_|_) h9
    · try simp only [decide_eq_true_eq, decide_eq_false_iff_not] at h9
      refine Seq.gn rfl rfl rfl rfl ?_
      refine Seq.gn rfl rfl rfl rfl ?_
      refine Seq.gn rfl rfl rfl rfl ?_
      refine Seq.gn rfl rfl rfl rfl ?_
      refine Seq.p rfl Ev.pickF ?_
      refine Seq.p rfl Ev.move ?_
      refine Seq.gn rfl rfl rfl rfl ?_
      refine Seq.gn rfl rfl rfl rfl ?_
      refine Seq.gn rfl rfl rfl rfl ?_
      refine Seq.gn rfl rfl rfl rfl ?_
      refine Seq.p rfl Ev.pickF ?_
      refine Seq.nil ?_
      refine JC.cF (h := ?_)
      refine JC.skip ?_
      refine JC.rs ?_
      refine Seq.p rfl Ev.assign ?_
      refine Seq.nil ?_
      refine JC.ret ?_
      -- return 1
      show retQ _ _ _ _ _ _ _ _
      refine ret1 (hp := Part.nil _) (hpost := ?_)
      simp [nameF, *]
    · try simp only [decide_eq_true_eq, decide_eq_false_iff_not] at h9
      refine Seq.gy rfl rfl rfl ?_
      refine Seq.p rfl (Ev.faB fd.api_Input_1) ?_
      refine Seq.gy rfl rfl rfl ?_
      refine Seq.p rfl (Ev.faB fd.api_Command_0) ?_
      refine Seq.gy rfl rfl rfl ?_
      refine Seq.p rfl (Ev.ldB sc.int) ?_
      refine Seq.gy rfl rfl rfl ?_
      refine Seq.p rfl Ev.ge ?_
      refine Seq.p rfl Ev.pickT ?_
      refine Seq.p rfl Ev.move ?_
      refine Seq.split (d := 15) (k := ?_)
      rintro (_|_) h15
      · try simp only [decide_eq_true_eq, decide_eq_false_iff_not] at h15
        refine Seq.gn rfl rfl rfl rfl ?_
        refine Seq.gn rfl rfl rfl rfl ?_
        refine Seq.gn rfl rfl rfl rfl ?_
        refine Seq.gn rfl rfl rfl rfl ?_
        refine Seq.p rfl Ev.pickF ?_
        refine Seq.nil ?_
        refine JC.cF (h := ?_)
        refine JC.skip ?_
        refine JC.rs ?_
        refine Seq.p rfl Ev.assign ?_
        refine Seq.nil ?_
        refine JC.ret ?_
        -- return 2
        show retQ _ _ _ _ _ _ _ _
        refine ret1 (hp := Part.nil _) (hpost := ?_)
        simp [nameF, *]
      · try simp only [decide_eq_true_eq, decide_eq_false_iff_not] at h15
        refine Seq.gy rfl rfl rfl ?_
        refine Seq.p rfl (Ev.faB fd.api_Input_1) ?_
        refine Seq.gy rfl rfl rfl ?_
        refine Seq.p rfl (Ev.faB fd.api_Command_0) ?_
        refine Seq.gy rfl rfl rfl ?_
        refine Seq.p rfl (Ev.ldB sc.int) ?_
        refine Seq.gy rfl rfl rfl ?_
        refine Seq.p rfl Ev.le ?_
        refine Seq.p rfl Ev.pickT ?_
        refine Seq.nil ?_
        first | refine JC.c (ht := fun c20 => ?_) (hf := fun c20 => ?_) | refine JC.cb (ht := fun c20 => ?_) (hf := fun c20 => ?_)
        · -- then_t20
          refine JC.rs ?_
          refine Seq.p rfl (Ev.faB fd.api_Input_1) ?_
          refine Seq.p rfl (Ev.faB fd.api_Command_0) ?_
          refine Seq.p rfl (Ev.ldB sc.int) ?_
          refine Seq.p rfl Ev.assign ?_
          refine Seq.nil ?_
          refine JC.ret ?_
          -- return 3
          show retQ _ _ _ _ _ _ _ _
          refine ret1 (hp := Part.nil _) (hpost := ?_)
          simp [nameF, *]
        · -- else_t20
          refine JC.skip ?_
          refine JC.rs ?_
          refine Seq.p rfl Ev.assign ?_
          refine Seq.nil ?_
          refine JC.ret ?_
          -- return 4
          show retQ _ _ _ _ _ _ _ _
          refine ret1 (hp := Part.nil _) (hpost := ?_)
          simp [nameF, *]
set_option maxHeartbeats 2000000 in
theorem refValue {w : World} {i : Input} {t : Int} : Spec Go.Proofs.Try.prog 33 #[.agg i.enc.toArray, .int .i64 t] w [] (fun u _ => u = .tuple #[.int .u64 (valueF i t).1, .bool (valueF i t).2]) := by
  refine Spec.enter (fn := Go.Proofs.Try.f33) (n := 52) [.agg i.enc.toArray, .int .i64 t] Go.Proofs.Try.func33 (by kernel_rfl) rfl Go.Proofs.Try.ntmps33 Go.Proofs.Try.results33 rfl (Own.nil _) ?_
  refine JC.rs ?_
  refine Seq.box (cs := [_, _, _, _, _, _, _, _, _, _, _]) (k := ?_); intro b2
  refine Seq.p rfl Ev.assign ?_
  refine Seq.p rfl Ev.assign ?_
  refine Seq.nil ?_
  refine JC.rs ?_
  refine Seq.p rfl (Ev.faB fd.api_Input_1) ?_
  refine Seq.p rfl (Ev.ldBPN [_, _, _, _, _, _, _, _, _] ag.api_Command) ?_
  refine Seq.alloc (cs := [_, _, _, _, _, _, _, _, _]) (hz := z.api_Command) (k := ?_); intro b6
  refine Seq.storeN [_, _, _, _, _, _, _, _, _] sz.api_Command (k := ?_)
  refine Seq.nil ?_
  refine JC.rs ?_
  refine Seq.p rfl Ev.assign ?_
  refine Seq.nil ?_
  refine JC.seq ?_
  refine JC.rs ?_
  refine Seq.p rfl Ev.move ?_
  refine Seq.nil ?_
  refine JC.blk ?_
  refine JC.rs ?_
  refine Seq.p rfl Ev.eq ?_
  refine Seq.p rfl Ev.assign ?_
  refine Seq.nil ?_
  first | refine JC.c (ht := fun c11 => ?_) (hf := fun c11 => ?_) | refine JC.cb (ht := fun c11 => ?_) (hf := fun c11 => ?_)
  · -- then_t11
    refine JC.rs ?_
    refine Seq.p rfl (Ev.faB fd.api_Command_1) ?_
    refine Seq.p rfl (Ev.ldB sc.uint64) ?_
    refine Seq.p rfl Ev.assign ?_
    refine Seq.p rfl Ev.assign ?_
    refine Seq.nil ?_
    refine JC.ret ?_
    -- return 0
    show retQ _ _ _ _ _ _ _ _
    refine ret2 (hp := Part.nil _) (hpost := ?_)
    simp [valueF, *]
  · -- else_t11
    refine JC.rs ?_
    refine Seq.p rfl Ev.eq ?_
    refine Seq.p rfl Ev.assign ?_
    refine Seq.nil ?_
    first | refine JC.c (ht := fun c15 => ?_) (hf := fun c15 => ?_) | refine JC.cb (ht := fun c15 => ?_) (hf := fun c15 => ?_)
    · -- then_t15
      refine JC.rs ?_
      refine Seq.p rfl (Ev.faB fd.api_Command_2) ?_
      refine Seq.p rfl (Ev.ldB sc.uint64) ?_
      refine Seq.p rfl Ev.assign ?_
      refine Seq.p rfl Ev.assign ?_
      refine Seq.nil ?_
      refine JC.ret ?_
      -- return 1
      show retQ _ _ _ _ _ _ _ _
      refine ret2 (hp := Part.nil _) (hpost := ?_)
      simp [valueF, *]
    · -- else_t15
      refine JC.rs ?_
      refine Seq.p rfl Ev.eq ?_
      refine Seq.p rfl Ev.assign ?_
      refine Seq.nil ?_
      first | refine JC.c (ht := fun c19 => ?_) (hf := fun c19 => ?_) | refine JC.cb (ht := fun c19 => ?_) (hf := fun c19 => ?_)
      · -- then_t19
        refine JC.rs ?_
        refine Seq.p rfl (Ev.faB fd.api_Command_3) ?_
        refine Seq.p rfl (Ev.ldB sc.uint32) ?_
        refine Seq.p rfl (Ev.convU64W it.uint32 it.uint64) ?_
        refine Seq.p rfl Ev.assign ?_
        refine Seq.p rfl Ev.assign ?_
        refine Seq.nil ?_
        refine JC.ret ?_
        -- return 2
        show retQ _ _ _ _ _ _ _ _
        refine ret2 (hp := Part.nil _) (hpost := ?_)
        simp [valueF, *]
      · -- else_t19
        refine JC.rs ?_
        refine Seq.p rfl Ev.eq ?_
        refine Seq.p rfl Ev.assign ?_
        refine Seq.nil ?_
        first | refine JC.c (ht := fun c24 => ?_) (hf := fun c24 => ?_) | refine JC.cb (ht := fun c24 => ?_) (hf := fun c24 => ?_)
        · -- then_t24
          refine JC.rs ?_
          refine Seq.p rfl (Ev.faB fd.api_Command_7) ?_
          refine Seq.p rfl (Ev.ldB sc.uint64) ?_
          refine Seq.p rfl Ev.assign ?_
          refine Seq.p rfl Ev.assign ?_
          refine Seq.nil ?_
          refine JC.ret ?_
          -- return 3
          show retQ _ _ _ _ _ _ _ _
          refine ret2 (hp := Part.nil _) (hpost := ?_)
          simp [valueF, *]
        · -- else_t24
          refine JC.rs ?_
          refine Seq.p rfl Ev.eq ?_
          refine Seq.p rfl Ev.assign ?_
          refine Seq.nil ?_
          first | refine JC.c (ht := fun c28 => ?_) (hf := fun c28 => ?_) | refine JC.cb (ht := fun c28 => ?_) (hf := fun c28 => ?_)
          · -- then_t28
            refine JC.rs ?_
            refine Seq.p rfl (Ev.faB fd.api_Command_8) ?_
            refine Seq.p rfl (Ev.ldB sc.uint64) ?_
            refine Seq.p rfl Ev.assign ?_
            refine Seq.p rfl Ev.assign ?_
            refine Seq.nil ?_
            refine JC.ret ?_
            -- return 4
            show retQ _ _ _ _ _ _ _ _
            refine ret2 (hp := Part.nil _) (hpost := ?_)
            simp [valueF, *]
          · -- else_t28
            refine JC.rs ?_
            refine Seq.p rfl Ev.eq ?_
            refine Seq.p rfl Ev.assign ?_
            refine Seq.nil ?_
            first | refine JC.c (ht := fun c32 => ?_) (hf := fun c32 => ?_) | refine JC.cb (ht := fun c32 => ?_) (hf := fun c32 => ?_)
            · -- then_t32
              refine JC.reg ?_
              refine Seq.p rfl (Ev.faB fd.api_Command_4) ?_
              refine Seq.p rfl (Ev.ldB sc.int) ?_
              refine Seq.p rfl Ev.assign ?_
              refine Seq.nil ?_
              refine JC.rs ?_
              refine Seq.p rfl Ev.move ?_
              refine Seq.p rfl (Ev.convU64W it.int it.uint64) ?_
              refine Seq.p rfl Ev.move ?_
              refine Seq.p rfl Ev.ge ?_
              refine Seq.p rfl Ev.assign ?_
              refine Seq.p rfl Ev.assign ?_
              refine Seq.nil ?_
              refine JC.ret ?_
              -- return 5
              show retQ _ _ _ _ _ _ _ _
              refine ret2 (hp := Part.nil _) (hpost := ?_)
              simp [valueF, *]
            · -- else_t32
              refine JC.rs ?_
              refine Seq.p rfl Ev.eq ?_
              refine Seq.p rfl Ev.assign ?_
              refine Seq.nil ?_
              first | refine JC.c (ht := fun c36 => ?_) (hf := fun c36 => ?_) | refine JC.cb (ht := fun c36 => ?_) (hf := fun c36 => ?_)
              · -- then_t36
                refine JC.reg ?_
                refine Seq.p rfl (Ev.faB fd.api_Command_5) ?_
                refine Seq.p rfl (Ev.ldB sc.int) ?_
                refine Seq.p rfl Ev.assign ?_
                refine Seq.nil ?_
                refine JC.rs ?_
                refine Seq.p rfl Ev.move ?_
                refine Seq.p rfl (Ev.convU64W it.int it.uint64) ?_
                refine Seq.p rfl Ev.move ?_
                refine Seq.p rfl Ev.ge ?_
                refine Seq.p rfl Ev.assign ?_
                refine Seq.p rfl Ev.assign ?_
                refine Seq.nil ?_
                refine JC.ret ?_
                -- return 6
                show retQ _ _ _ _ _ _ _ _
                refine ret2 (hp := Part.nil _) (hpost := ?_)
                simp [valueF, *]
              · -- else_t36
                refine JC.rs ?_
                refine Seq.p rfl Ev.eq ?_
                refine Seq.p rfl Ev.assign ?_
                refine Seq.nil ?_
                first | refine JC.c (ht := fun c40 => ?_) (hf := fun c40 => ?_) | refine JC.cb (ht := fun c40 => ?_) (hf := fun c40 => ?_)
                · -- then_t40
                  refine JC.reg ?_
                  refine Seq.p rfl (Ev.faB fd.api_Command_6) ?_
                  refine Seq.p rfl (Ev.ldB sc.int) ?_
                  refine Seq.p rfl Ev.assign ?_
                  refine Seq.nil ?_
                  refine JC.rs ?_
                  refine Seq.p rfl Ev.move ?_
                  refine Seq.p rfl (Ev.convU64W it.int it.uint64) ?_
                  refine Seq.p rfl Ev.move ?_
                  refine Seq.p rfl Ev.ge ?_
                  refine Seq.p rfl Ev.assign ?_
                  refine Seq.p rfl Ev.assign ?_
                  refine Seq.nil ?_
                  refine JC.ret ?_
                  -- return 7
                  show retQ _ _ _ _ _ _ _ _
                  refine ret2 (hp := Part.nil _) (hpost := ?_)
                  simp [valueF, *]
                · -- else_t40
                  refine JC.rs ?_
                  refine Seq.p rfl Ev.eq ?_
                  refine Seq.p rfl Ev.assign ?_
                  refine Seq.nil ?_
                  first | refine JC.c (ht := fun c44 => ?_) (hf := fun c44 => ?_) | refine JC.cb (ht := fun c44 => ?_) (hf := fun c44 => ?_)
                  · -- then_t44
                    refine JC.reg ?_
                    refine Seq.p rfl (Ev.faB fd.api_Input_2) ?_
                    refine Seq.p rfl (Ev.ldB sc.int) ?_
                    refine Seq.p rfl Ev.assign ?_
                    refine Seq.nil ?_
                    refine JC.rs ?_
                    refine Seq.p rfl Ev.move ?_
                    refine Seq.p rfl (Ev.convU64W it.int it.uint64) ?_
                    refine Seq.p rfl Ev.move ?_
                    refine Seq.p rfl Ev.ge ?_
                    refine Seq.p rfl Ev.assign ?_
                    refine Seq.p rfl Ev.assign ?_
                    refine Seq.nil ?_
                    refine JC.ret ?_
                    -- return 8
                    show retQ _ _ _ _ _ _ _ _
                    refine ret2 (hp := Part.nil _) (hpost := ?_)
                    simp [valueF, *]
                  · -- else_t44
                    refine JC.skip ?_
                    refine JC.rs ?_
                    refine Seq.p rfl Ev.move ?_
                    refine Seq.p rfl (Ev.convU64W it.int it.uint64) ?_
                    refine Seq.p rfl Ev.move ?_
                    refine Seq.p rfl Ev.ge ?_
                    refine Seq.p rfl Ev.assign ?_
                    refine Seq.p rfl Ev.assign ?_
                    refine Seq.nil ?_
                    refine JC.ret ?_
                    -- return 9
                    show retQ _ _ _ _ _ _ _ _
                    refine ret2 (hp := Part.nil _) (hpost := ?_)
                    simp [valueF, *]
set_option maxHeartbeats 2000000 in
theorem refWith {w : World} {i : Input} {t n : Int} : Spec Go.Proofs.Try.prog 30 #[.agg i.enc.toArray, .int .i64 t, .int .u64 n] w [] (fun u _ => u = .agg (withF i t n).enc.toArray) := by
  refine Spec.enter (fn := Go.Proofs.Try.f30) (n := 58) [.agg i.enc.toArray, .int .i64 t, .int .u64 n] Go.Proofs.Try.func30 (by kernel_rfl) rfl Go.Proofs.Try.ntmps30 Go.Proofs.Try.results30 rfl (Own.nil _) ?_
  refine JC.rs ?_
  refine Seq.box (cs := [_, _, _, _, _, _, _, _, _, _, _]) (k := ?_); intro b3
  refine Seq.alloc (cs := [_, _, _, _, _, _, _, _, _, _, _]) (hz := z.api_Input) (k := ?_); intro b6
  refine Seq.nil ?_
  refine JC.seq ?_
  refine JC.rs ?_
  refine Seq.p rfl Ev.move ?_
  refine Seq.nil ?_
  refine JC.blk ?_
  refine JC.rs ?_
  refine Seq.p rfl Ev.eq ?_
  refine Seq.p rfl Ev.assign ?_
  refine Seq.nil ?_
  first | refine JC.c (ht := fun c8 => ?_) (hf := fun c8 => ?_) | refine JC.cb (ht := fun c8 => ?_) (hf := fun c8 => ?_)
  · -- then_t8
    refine JC.reg ?_
    refine Seq.p rfl Ev.move ?_
    refine Seq.p rfl (Ev.faB fd.api_Input_1) ?_
    refine Seq.p rfl (Ev.faB fd.api_Command_1) ?_
    refine Seq.storeN [_, _, _, _, _, _, _, _, _, _, _] sz.uint64 (k := ?_)
    refine Seq.nil ?_
    refine JC.rs ?_
    refine Seq.p rfl (Ev.ldBA ag.api_Input) ?_
    refine Seq.storeN [_, _, _, _, _, _, _, _, _, _, _] sz.api_Input (k := ?_)
    refine Seq.nil ?_
    refine JC.ret ?_
    -- return 0
    show retQ _ _ _ _ _ _ _ _
    refine retB1 ag.api_Input (hp := Part.nil _) (hpost := ?_)
    unfold withF
    simp only [*, if_true, if_false]
    rfl
  · -- else_t8
    refine JC.rs ?_
    refine Seq.p rfl Ev.eq ?_
    refine Seq.p rfl Ev.assign ?_
    refine Seq.nil ?_
    first | refine JC.c (ht := fun c13 => ?_) (hf := fun c13 => ?_) | refine JC.cb (ht := fun c13 => ?_) (hf := fun c13 => ?_)
    · -- then_t13
      refine JC.reg ?_
      refine Seq.p rfl Ev.move ?_
      refine Seq.p rfl (Ev.faB fd.api_Input_1) ?_
      refine Seq.p rfl (Ev.faB fd.api_Command_2) ?_
      refine Seq.storeN [_, _, _, _, _, _, _, _, _, _, _] sz.uint64 (k := ?_)
      refine Seq.nil ?_
      refine JC.rs ?_
      refine Seq.p rfl (Ev.ldBA ag.api_Input) ?_
      refine Seq.storeN [_, _, _, _, _, _, _, _, _, _, _] sz.api_Input (k := ?_)
      refine Seq.nil ?_
      refine JC.ret ?_
      -- return 1
      show retQ _ _ _ _ _ _ _ _
      refine retB1 ag.api_Input (hp := Part.nil _) (hpost := ?_)
      unfold withF
      simp only [*, if_true, if_false]
      rfl
    · -- else_t13
      refine JC.rs ?_
      refine Seq.p rfl Ev.eq ?_
      refine Seq.p rfl Ev.assign ?_
      refine Seq.nil ?_
      first | refine JC.c (ht := fun c18 => ?_) (hf := fun c18 => ?_) | refine JC.cb (ht := fun c18 => ?_) (hf := fun c18 => ?_)
      · -- then_t18
        refine JC.reg ?_
        refine Seq.p rfl Ev.move ?_
        refine Seq.p rfl (Ev.convU32W it.uint64 it.uint32) ?_
        refine Seq.p rfl (Ev.faB fd.api_Input_1) ?_
        refine Seq.p rfl (Ev.faB fd.api_Command_3) ?_
        refine Seq.storeN [_, _, _, _, _, _, _, _, _, _, _] sz.uint32 (k := ?_)
        refine Seq.nil ?_
        refine JC.rs ?_
        refine Seq.p rfl (Ev.ldBA ag.api_Input) ?_
        refine Seq.storeN [_, _, _, _, _, _, _, _, _, _, _] sz.api_Input (k := ?_)
        refine Seq.nil ?_
        refine JC.ret ?_
        -- return 2
        show retQ _ _ _ _ _ _ _ _
        refine retB1 ag.api_Input (hp := Part.nil _) (hpost := ?_)
        unfold withF
        simp only [*, if_true, if_false]
        rfl
      · -- else_t18
        refine JC.rs ?_
        refine Seq.p rfl Ev.eq ?_
        refine Seq.p rfl Ev.assign ?_
        refine Seq.nil ?_
        first | refine JC.c (ht := fun c24 => ?_) (hf := fun c24 => ?_) | refine JC.cb (ht := fun c24 => ?_) (hf := fun c24 => ?_)
        · -- then_t24
          refine JC.reg ?_
          refine Seq.p rfl Ev.move ?_
          refine Seq.p rfl (Ev.faB fd.api_Input_1) ?_
          refine Seq.p rfl (Ev.faB fd.api_Command_7) ?_
          refine Seq.storeN [_, _, _, _, _, _, _, _, _, _, _] sz.uint64 (k := ?_)
          refine Seq.nil ?_
          refine JC.rs ?_
          refine Seq.p rfl (Ev.ldBA ag.api_Input) ?_
          refine Seq.storeN [_, _, _, _, _, _, _, _, _, _, _] sz.api_Input (k := ?_)
          refine Seq.nil ?_
          refine JC.ret ?_
          -- return 3
          show retQ _ _ _ _ _ _ _ _
          refine retB1 ag.api_Input (hp := Part.nil _) (hpost := ?_)
          unfold withF
          simp only [*, if_true, if_false]
          rfl
        · -- else_t24
          refine JC.rs ?_
          refine Seq.p rfl Ev.eq ?_
          refine Seq.p rfl Ev.assign ?_
          refine Seq.nil ?_
          first | refine JC.c (ht := fun c29 => ?_) (hf := fun c29 => ?_) | refine JC.cb (ht := fun c29 => ?_) (hf := fun c29 => ?_)
          · -- then_t29
            refine JC.reg ?_
            refine Seq.p rfl Ev.move ?_
            refine Seq.p rfl (Ev.faB fd.api_Input_1) ?_
            refine Seq.p rfl (Ev.faB fd.api_Command_8) ?_
            refine Seq.storeN [_, _, _, _, _, _, _, _, _, _, _] sz.uint64 (k := ?_)
            refine Seq.nil ?_
            refine JC.rs ?_
            refine Seq.p rfl (Ev.ldBA ag.api_Input) ?_
            refine Seq.storeN [_, _, _, _, _, _, _, _, _, _, _] sz.api_Input (k := ?_)
            refine Seq.nil ?_
            refine JC.ret ?_
            -- return 4
            show retQ _ _ _ _ _ _ _ _
            refine retB1 ag.api_Input (hp := Part.nil _) (hpost := ?_)
            unfold withF
            simp only [*, if_true, if_false]
            rfl
          · -- else_t29
            refine JC.rs ?_
            refine Seq.p rfl Ev.eq ?_
            refine Seq.p rfl Ev.assign ?_
            refine Seq.nil ?_
            first | refine JC.c (ht := fun c34 => ?_) (hf := fun c34 => ?_) | refine JC.cb (ht := fun c34 => ?_) (hf := fun c34 => ?_)
            · -- then_t34
              refine JC.reg ?_
              refine Seq.p rfl Ev.move ?_
              refine Seq.p rfl (Ev.convW it.uint64 it.int) ?_
              refine Seq.p rfl (Ev.faB fd.api_Input_1) ?_
              refine Seq.p rfl (Ev.faB fd.api_Command_4) ?_
              refine Seq.storeN [_, _, _, _, _, _, _, _, _, _, _] sz.int (k := ?_)
              refine Seq.nil ?_
              refine JC.rs ?_
              refine Seq.p rfl (Ev.ldBA ag.api_Input) ?_
              refine Seq.storeN [_, _, _, _, _, _, _, _, _, _, _] sz.api_Input (k := ?_)
              refine Seq.nil ?_
              refine JC.ret ?_
              -- return 5
              show retQ _ _ _ _ _ _ _ _
              refine retB1 ag.api_Input (hp := Part.nil _) (hpost := ?_)
              unfold withF
              simp only [*, if_true, if_false]
              rfl
            · -- else_t34
              refine JC.rs ?_
              refine Seq.p rfl Ev.eq ?_
              refine Seq.p rfl Ev.assign ?_
              refine Seq.nil ?_
              first | refine JC.c (ht := fun c40 => ?_) (hf := fun c40 => ?_) | refine JC.cb (ht := fun c40 => ?_) (hf := fun c40 => ?_)
              · -- then_t40
                refine JC.reg ?_
                refine Seq.p rfl Ev.move ?_
                refine Seq.p rfl (Ev.convW it.uint64 it.int) ?_
                refine Seq.p rfl (Ev.faB fd.api_Input_1) ?_
                refine Seq.p rfl (Ev.faB fd.api_Command_5) ?_
                refine Seq.storeN [_, _, _, _, _, _, _, _, _, _, _] sz.int (k := ?_)
                refine Seq.nil ?_
                refine JC.rs ?_
                refine Seq.p rfl (Ev.ldBA ag.api_Input) ?_
                refine Seq.storeN [_, _, _, _, _, _, _, _, _, _, _] sz.api_Input (k := ?_)
                refine Seq.nil ?_
                refine JC.ret ?_
                -- return 6
                show retQ _ _ _ _ _ _ _ _
                refine retB1 ag.api_Input (hp := Part.nil _) (hpost := ?_)
                unfold withF
                simp only [*, if_true, if_false]
                rfl
              · -- else_t40
                refine JC.rs ?_
                refine Seq.p rfl Ev.eq ?_
                refine Seq.p rfl Ev.assign ?_
                refine Seq.nil ?_
                first | refine JC.c (ht := fun c46 => ?_) (hf := fun c46 => ?_) | refine JC.cb (ht := fun c46 => ?_) (hf := fun c46 => ?_)
                · -- then_t46
                  refine JC.reg ?_
                  refine Seq.p rfl Ev.move ?_
                  refine Seq.p rfl (Ev.convW it.uint64 it.int) ?_
                  refine Seq.p rfl (Ev.faB fd.api_Input_1) ?_
                  refine Seq.p rfl (Ev.faB fd.api_Command_6) ?_
                  refine Seq.storeN [_, _, _, _, _, _, _, _, _, _, _] sz.int (k := ?_)
                  refine Seq.nil ?_
                  refine JC.rs ?_
                  refine Seq.p rfl (Ev.ldBA ag.api_Input) ?_
                  refine Seq.storeN [_, _, _, _, _, _, _, _, _, _, _] sz.api_Input (k := ?_)
                  refine Seq.nil ?_
                  refine JC.ret ?_
                  -- return 7
                  show retQ _ _ _ _ _ _ _ _
                  refine retB1 ag.api_Input (hp := Part.nil _) (hpost := ?_)
                  unfold withF
                  simp only [*, if_true, if_false]
                  rfl
                · -- else_t46
                  refine JC.rs ?_
                  refine Seq.p rfl Ev.eq ?_
                  refine Seq.p rfl Ev.assign ?_
                  refine Seq.nil ?_
                  first | refine JC.c (ht := fun c52 => ?_) (hf := fun c52 => ?_) | refine JC.cb (ht := fun c52 => ?_) (hf := fun c52 => ?_)
                  · -- then_t52
                    refine JC.reg ?_
                    refine Seq.p rfl Ev.move ?_
                    refine Seq.p rfl (Ev.convW it.uint64 it.int) ?_
                    refine Seq.p rfl (Ev.faB fd.api_Input_2) ?_
                    refine Seq.storeN [_, _, _, _, _, _, _, _, _, _, _] sz.int (k := ?_)
                    refine Seq.nil ?_
                    refine JC.rs ?_
                    refine Seq.p rfl (Ev.ldBA ag.api_Input) ?_
                    refine Seq.storeN [_, _, _, _, _, _, _, _, _, _, _] sz.api_Input (k := ?_)
                    refine Seq.nil ?_
                    refine JC.ret ?_
                    -- return 8
                    show retQ _ _ _ _ _ _ _ _
                    refine retB1 ag.api_Input (hp := Part.nil _) (hpost := ?_)
                    unfold withF
                    simp only [*, if_true, if_false]
                    rfl
                  · -- else_t52
                    refine JC.skip ?_
                    refine JC.rs ?_
                    refine Seq.p rfl (Ev.ldBA ag.api_Input) ?_
                    refine Seq.storeN [_, _, _, _, _, _, _, _, _, _, _] sz.api_Input (k := ?_)
                    refine Seq.nil ?_
                    refine JC.ret ?_
                    -- return 9
                    show retQ _ _ _ _ _ _ _ _
                    refine retB1 ag.api_Input (hp := Part.nil _) (hpost := ?_)
                    unfold withF
                    simp only [*, if_true, if_false]
                    rfl
theorem refBare {w : World} {k : Int} : Spec Go.Proofs.Try.prog 29 #[.int .i64 k] w [] (fun u _ => u = .agg (bareF k).enc.toArray) := by
  refine Spec.enter (fn := Go.Proofs.Try.f29) (n := 9) [.int .i64 k] Go.Proofs.Try.func29 (by kernel_rfl) rfl Go.Proofs.Try.ntmps29 Go.Proofs.Try.results29 rfl (Own.nil _) ?_
  refine JC.rs ?_
  refine Seq.alloc (cs := [_, _, _, _, _, _, _, _, _, _, _]) (hz := z.api_Input) (k := ?_); intro b2
  refine Seq.nil ?_
  refine JC.seq ?_
  refine JC.rs ?_
  refine Seq.p rfl Ev.move ?_
  refine Seq.p rfl Ev.eq ?_
  refine Seq.nil ?_
  first | refine JC.c (ht := fun c4 => ?_) (hf := fun c4 => ?_) | refine JC.cb (ht := fun c4 => ?_) (hf := fun c4 => ?_)
  · -- then_t4
    refine JC.rs ?_
    refine Seq.p rfl (Ev.buildN [_, _, _, _, _, _, _, _, _, _, _] pl.api_Input z.api_Input) ?_
    refine Seq.storeN [_, _, _, _, _, _, _, _, _, _, _] sz.api_Input (k := ?_)
    refine Seq.nil ?_
    refine JC.ret ?_
    -- return 0
    show retQ _ _ _ _ _ _ _ _
    refine retB1 ag.api_Input (hp := Part.nil _) (hpost := ?_)
    rw [bareF, if_pos c4]
    rfl
  · -- else_t4
    refine JC.skip ?_
    refine JC.rs ?_
    refine Seq.p rfl Ev.move ?_
    refine Seq.p rfl (Ev.buildN [_, _, _, _, _, _, _, _, _] pl.api_Command z.api_Command) ?_
    refine Seq.p rfl (Ev.buildN [_, _, _, _, _, _, _, _, _, _, _] pl.api_Input z.api_Input) ?_
    refine Seq.storeN [_, _, _, _, _, _, _, _, _, _, _] sz.api_Input (k := ?_)
    refine Seq.nil ?_
    refine JC.ret ?_
    -- return 1
    show retQ _ _ _ _ _ _ _ _
    refine retB1 ag.api_Input (hp := Part.nil _) (hpost := ?_)
    rw [bareF, if_neg c4]
    rfl
end Go.Rx
