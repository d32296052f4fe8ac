/- A part of the proof: the text E1. -/
import Derived.Test.YtdfleghechbcpaaN3
namespace Go.Rx
open Go Go.RowKit
set_option linter.unusedVariables false
set_option linter.unusedSimpArgs false
structure Event where
  seq : Int
  kind : Int
  id : Int
  other : Int
  target : Int
  member : Int
  side : Int
  type : Int
  price : Int
  qty : Int
  peak : Int
  reason : Int
  code : Int
deriving DecidableEq, Inhabited
def Event.enc (e : Event) : List Value := [.int .u64 e.seq, .int .i64 e.kind, .int .u64 e.id, .int .u64 e.other, .int .u64 e.target, .int .u32 e.member, .int .i64 e.side, .int .i64 e.type, .int .i64 e.price, .int .u64 e.qty, .int .u64 e.peak, .int .i64 e.reason, .int .i64 e.code]
theorem Event.eqL_enc (x y : Event) : eqL x.enc y.enc = decide (x = y) := by
  cases x; cases y
  simp [Event.enc, eqL, eqV, Bool.decide_and]
def eventOfF (k : Int) (ms : List (Int × Int)) : Event :=
  ⟨iget ms 34, k, iget ms 11, iget ms 37, iget ms 41, iget ms 1 % 4294967296, s64 (iget ms 54), s64 (iget ms 40), s64 (iget ms 44), iget ms 38, iget ms 210, s64 (iget ms 378), s64 (iget ms 103)⟩
def eventValueF (e : Event) (t : Int) : Int × Bool :=
  if t = 34 then (e.seq, true) else if t = 11 then (e.id, true) else if t = 41 then (e.target, true) else if t = 37 then (e.other, true) else if t = 1 then (e.member % 18446744073709551616, true) else if t = 38 then (e.qty, true) else if t = 210 then (e.peak, true)
  else
    let n := if t = 54 then e.side else if t = 40 then e.type else if t = 44 then e.price else if t = 378 then e.reason else if t = 103 then e.code else 0
    (n % 18446744073709551616, decide (0 ≤ n))
def withEventF (e : Event) (t n : Int) : Event :=
  if t = 34 then { e with seq := n } else if t = 11 then { e with id := n } else if t = 41 then { e with target := n } else if t = 37 then { e with other := n } else if t = 1 then { e with member := n % 4294967296 } else if t = 38 then { e with qty := n } else if t = 210 then { e with peak := n }
  else if t = 54 then { e with side := s64 n } else if t = 40 then { e with type := s64 n } else if t = 44 then { e with price := s64 n } else if t = 378 then { e with reason := s64 n } else if t = 103 then { e with code := s64 n } else e
set_option maxHeartbeats 2000000 in
theorem msgEventOf {w : World} {k : Int} {v : Value} {ms : List (Int × Int)} (hm : RMp .i64 .u64 w [] v ms) : Spec Go.Proofs.Try.prog 23 #[.int .i64 k, v] w [] (fun u _ => u = .agg (eventOfF k ms).enc.toArray) := by
  refine Spec.enter (fn := Go.Proofs.Try.f23) (n := 37) [.int .i64 k, v] Go.Proofs.Try.func23 (by kernel_rfl) rfl Go.Proofs.Try.ntmps23 Go.Proofs.Try.results23 rfl (Own.nil _) ?_
  refine JC.rs ?_
  refine Seq.alloc (cs := [_, _, _, _, _, _, _, _, _, _, _, _, _]) (hz := z.api_Event) (k := ?_); intro b4
  refine Seq.nil ?_
  refine JC.rs ?_
  refine Seq.p rfl Ev.move ?_
  refine Seq.p rfl (Ev.mapI mp.m_int_uint64 z.uint64 hm.r) ?_
  refine Seq.p rfl Ev.move ?_
  refine Seq.p rfl Ev.move ?_
  refine Seq.p rfl (Ev.mapI mp.m_int_uint64 z.uint64 hm.r) ?_
  refine Seq.p rfl Ev.move ?_
  refine Seq.p rfl (Ev.mapI mp.m_int_uint64 z.uint64 hm.r) ?_
  refine Seq.p rfl Ev.move ?_
  refine Seq.p rfl (Ev.mapI mp.m_int_uint64 z.uint64 hm.r) ?_
  refine Seq.p rfl Ev.move ?_
  refine Seq.p rfl (Ev.mapI mp.m_int_uint64 z.uint64 hm.r) ?_
  refine Seq.p rfl (Ev.convU32W it.uint64 it.uint32) ?_
  refine Seq.p rfl Ev.move ?_
  refine Seq.p rfl (Ev.mapI mp.m_int_uint64 z.uint64 hm.r) ?_
  refine Seq.p rfl (Ev.convW it.uint64 it.int) ?_
  refine Seq.p rfl Ev.move ?_
  refine Seq.p rfl (Ev.mapI mp.m_int_uint64 z.uint64 hm.r) ?_
  refine Seq.p rfl (Ev.convW it.uint64 it.int) ?_
  refine Seq.p rfl Ev.move ?_
  refine Seq.p rfl (Ev.mapI mp.m_int_uint64 z.uint64 hm.r) ?_
  refine Seq.p rfl (Ev.convW it.uint64 it.int) ?_
  refine Seq.p rfl Ev.move ?_
  refine Seq.p rfl (Ev.mapI mp.m_int_uint64 z.uint64 hm.r) ?_
  refine Seq.p rfl Ev.move ?_
  refine Seq.p rfl (Ev.mapI mp.m_int_uint64 z.uint64 hm.r) ?_
  refine Seq.p rfl Ev.move ?_
  refine Seq.p rfl (Ev.mapI mp.m_int_uint64 z.uint64 hm.r) ?_
  refine Seq.p rfl (Ev.convW it.uint64 it.int) ?_
  refine Seq.p rfl Ev.move ?_
  refine Seq.p rfl (Ev.mapI mp.m_int_uint64 z.uint64 hm.r) ?_
  refine Seq.p rfl (Ev.convW it.uint64 it.api_Errno) ?_
  refine Seq.p rfl (Ev.buildS [_, _, _, _, _, _, _, _, _, _, _, _, _] pl.api_Event z.api_Event) ?_
  refine Seq.storeN [_, _, _, _, _, _, _, _, _, _, _, _, _] sz.api_Event (k := ?_)
  refine Seq.nil ?_
  refine JC.ret ?_
  -- return 0
  show retQ _ _ _ _ _ _ _ _
  refine retB1 ag.api_Event (hp := Part.nil _) (hpost := ?_)
  rfl
set_option maxHeartbeats 4000000 in
theorem refEventValue {w : World} {e : Event} {t : Int} : Spec Go.Proofs.Try.prog 34 #[.agg e.enc.toArray, .int .i64 t] w [] (fun u _ => u = .tuple #[.int .u64 (eventValueF e t).1, .bool (eventValueF e t).2]) := by
  refine Spec.enter (fn := Go.Proofs.Try.f34) (n := 61) [.agg e.enc.toArray, .int .i64 t] Go.Proofs.Try.func34 (by kernel_rfl) rfl Go.Proofs.Try.ntmps34 Go.Proofs.Try.results34 rfl (Own.nil _) ?_
  refine JC.rs ?_
  refine Seq.box (cs := [_, _, _, _, _, _, _, _, _, _, _, _, _]) (k := ?_); intro b2
  refine Seq.p rfl Ev.assign ?_
  refine Seq.p rfl Ev.assign ?_
  refine Seq.nil ?_
  refine JC.rs ?_
  refine Seq.p rfl Ev.assign ?_
  refine Seq.nil ?_
  refine JC.seq ?_
  refine JC.rs ?_
  refine Seq.p rfl Ev.move ?_
  refine Seq.nil ?_
  refine JC.blk ?_
  refine JC.rs ?_
  refine Seq.p rfl Ev.eq ?_
  refine Seq.p rfl Ev.assign ?_
  refine Seq.nil ?_
  first | refine JC.c (ht := fun c8 => ?_) (hf := fun c8 => ?_) | refine JC.cb (ht := fun c8 => ?_) (hf := fun c8 => ?_)
  · -- then_t8
    refine JC.rs ?_
    refine Seq.p rfl (Ev.faB fd.api_Event_0) ?_
    refine Seq.p rfl (Ev.ldB sc.uint64) ?_
    refine Seq.p rfl Ev.assign ?_
    refine Seq.p rfl Ev.assign ?_
    refine Seq.nil ?_
    refine JC.ret ?_
    -- return 0
    show retQ _ _ _ _ _ _ _ _
    refine ret2 (hp := Part.nil _) (hpost := ?_)
    simp [eventValueF, *]
  · -- else_t8
    refine JC.rs ?_
    refine Seq.p rfl Ev.eq ?_
    refine Seq.p rfl Ev.assign ?_
    refine Seq.nil ?_
    first | refine JC.c (ht := fun c12 => ?_) (hf := fun c12 => ?_) | refine JC.cb (ht := fun c12 => ?_) (hf := fun c12 => ?_)
    · -- then_t12
      refine JC.rs ?_
      refine Seq.p rfl (Ev.faB fd.api_Event_2) ?_
      refine Seq.p rfl (Ev.ldB sc.uint64) ?_
      refine Seq.p rfl Ev.assign ?_
      refine Seq.p rfl Ev.assign ?_
      refine Seq.nil ?_
      refine JC.ret ?_
      -- return 1
      show retQ _ _ _ _ _ _ _ _
      refine ret2 (hp := Part.nil _) (hpost := ?_)
      simp [eventValueF, *]
    · -- else_t12
      refine JC.rs ?_
      refine Seq.p rfl Ev.eq ?_
      refine Seq.p rfl Ev.assign ?_
      refine Seq.nil ?_
      first | refine JC.c (ht := fun c16 => ?_) (hf := fun c16 => ?_) | refine JC.cb (ht := fun c16 => ?_) (hf := fun c16 => ?_)
      · -- then_t16
        refine JC.rs ?_
        refine Seq.p rfl (Ev.faB fd.api_Event_4) ?_
        refine Seq.p rfl (Ev.ldB sc.uint64) ?_
        refine Seq.p rfl Ev.assign ?_
        refine Seq.p rfl Ev.assign ?_
        refine Seq.nil ?_
        refine JC.ret ?_
        -- return 2
        show retQ _ _ _ _ _ _ _ _
        refine ret2 (hp := Part.nil _) (hpost := ?_)
        simp [eventValueF, *]
      · -- else_t16
        refine JC.rs ?_
        refine Seq.p rfl Ev.eq ?_
        refine Seq.p rfl Ev.assign ?_
        refine Seq.nil ?_
        first | refine JC.c (ht := fun c20 => ?_) (hf := fun c20 => ?_) | refine JC.cb (ht := fun c20 => ?_) (hf := fun c20 => ?_)
        · -- then_t20
          refine JC.rs ?_
          refine Seq.p rfl (Ev.faB fd.api_Event_3) ?_
          refine Seq.p rfl (Ev.ldB sc.uint64) ?_
          refine Seq.p rfl Ev.assign ?_
          refine Seq.p rfl Ev.assign ?_
          refine Seq.nil ?_
          refine JC.ret ?_
          -- return 3
          show retQ _ _ _ _ _ _ _ _
          refine ret2 (hp := Part.nil _) (hpost := ?_)
          simp [eventValueF, *]
        · -- else_t20
          refine JC.rs ?_
          refine Seq.p rfl Ev.eq ?_
          refine Seq.p rfl Ev.assign ?_
          refine Seq.nil ?_
          first | refine JC.c (ht := fun c24 => ?_) (hf := fun c24 => ?_) | refine JC.cb (ht := fun c24 => ?_) (hf := fun c24 => ?_)
          · -- then_t24
            refine JC.rs ?_
            refine Seq.p rfl (Ev.faB fd.api_Event_5) ?_
            refine Seq.p rfl (Ev.ldB sc.uint32) ?_
            refine Seq.p rfl (Ev.convU64W it.uint32 it.uint64) ?_
            refine Seq.p rfl Ev.assign ?_
            refine Seq.p rfl Ev.assign ?_
            refine Seq.nil ?_
            refine JC.ret ?_
            -- return 4
            show retQ _ _ _ _ _ _ _ _
            refine ret2 (hp := Part.nil _) (hpost := ?_)
            simp [eventValueF, *]
          · -- else_t24
            refine JC.rs ?_
            refine Seq.p rfl Ev.eq ?_
            refine Seq.p rfl Ev.assign ?_
            refine Seq.nil ?_
            first | refine JC.c (ht := fun c29 => ?_) (hf := fun c29 => ?_) | refine JC.cb (ht := fun c29 => ?_) (hf := fun c29 => ?_)
            · -- then_t29
              refine JC.rs ?_
              refine Seq.p rfl (Ev.faB fd.api_Event_9) ?_
              refine Seq.p rfl (Ev.ldB sc.uint64) ?_
              refine Seq.p rfl Ev.assign ?_
              refine Seq.p rfl Ev.assign ?_
              refine Seq.nil ?_
              refine JC.ret ?_
              -- return 5
              show retQ _ _ _ _ _ _ _ _
              refine ret2 (hp := Part.nil _) (hpost := ?_)
              simp [eventValueF, *]
            · -- else_t29
              refine JC.rs ?_
              refine Seq.p rfl Ev.eq ?_
              refine Seq.p rfl Ev.assign ?_
              refine Seq.nil ?_
              first | refine JC.c (ht := fun c33 => ?_) (hf := fun c33 => ?_) | refine JC.cb (ht := fun c33 => ?_) (hf := fun c33 => ?_)
              · -- then_t33
                refine JC.rs ?_
                refine Seq.p rfl (Ev.faB fd.api_Event_10) ?_
                refine Seq.p rfl (Ev.ldB sc.uint64) ?_
                refine Seq.p rfl Ev.assign ?_
                refine Seq.p rfl Ev.assign ?_
                refine Seq.nil ?_
                refine JC.ret ?_
                -- return 6
                show retQ _ _ _ _ _ _ _ _
                refine ret2 (hp := Part.nil _) (hpost := ?_)
                simp [eventValueF, *]
              · -- else_t33
                refine JC.rs ?_
                refine Seq.p rfl Ev.eq ?_
                refine Seq.p rfl Ev.assign ?_
                refine Seq.nil ?_
                first | refine JC.c (ht := fun c37 => ?_) (hf := fun c37 => ?_) | refine JC.cb (ht := fun c37 => ?_) (hf := fun c37 => ?_)
                · -- then_t37
                  refine JC.reg ?_
                  refine Seq.p rfl (Ev.faB fd.api_Event_6) ?_
                  refine Seq.p rfl (Ev.ldB sc.int) ?_
                  refine Seq.p rfl Ev.assign ?_
                  refine Seq.nil ?_
                  refine JC.rs ?_
                  refine Seq.p rfl Ev.move ?_
                  refine Seq.p rfl (Ev.convU64W it.int it.uint64) ?_
                  refine Seq.p rfl Ev.move ?_
                  refine Seq.p rfl Ev.ge ?_
                  refine Seq.p rfl Ev.assign ?_
                  refine Seq.p rfl Ev.assign ?_
                  refine Seq.nil ?_
                  refine JC.ret ?_
                  -- return 7
                  show retQ _ _ _ _ _ _ _ _
                  refine ret2 (hp := Part.nil _) (hpost := ?_)
                  simp [eventValueF, *]
                · -- else_t37
                  refine JC.rs ?_
                  refine Seq.p rfl Ev.eq ?_
                  refine Seq.p rfl Ev.assign ?_
                  refine Seq.nil ?_
                  first | refine JC.c (ht := fun c41 => ?_) (hf := fun c41 => ?_) | refine JC.cb (ht := fun c41 => ?_) (hf := fun c41 => ?_)
                  · -- then_t41
                    refine JC.reg ?_
                    refine Seq.p rfl (Ev.faB fd.api_Event_7) ?_
                    refine Seq.p rfl (Ev.ldB sc.int) ?_
                    refine Seq.p rfl Ev.assign ?_
                    refine Seq.nil ?_
                    refine JC.rs ?_
                    refine Seq.p rfl Ev.move ?_
                    refine Seq.p rfl (Ev.convU64W it.int it.uint64) ?_
                    refine Seq.p rfl Ev.move ?_
                    refine Seq.p rfl Ev.ge ?_
                    refine Seq.p rfl Ev.assign ?_
                    refine Seq.p rfl Ev.assign ?_
                    refine Seq.nil ?_
                    refine JC.ret ?_
                    -- return 8
                    show retQ _ _ _ _ _ _ _ _
                    refine ret2 (hp := Part.nil _) (hpost := ?_)
                    simp [eventValueF, *]
                  · -- else_t41
                    refine JC.rs ?_
                    refine Seq.p rfl Ev.eq ?_
                    refine Seq.p rfl Ev.assign ?_
                    refine Seq.nil ?_
                    first | refine JC.c (ht := fun c45 => ?_) (hf := fun c45 => ?_) | refine JC.cb (ht := fun c45 => ?_) (hf := fun c45 => ?_)
                    · -- then_t45
                      refine JC.reg ?_
                      refine Seq.p rfl (Ev.faB fd.api_Event_8) ?_
                      refine Seq.p rfl (Ev.ldB sc.int) ?_
                      refine Seq.p rfl Ev.assign ?_
                      refine Seq.nil ?_
                      refine JC.rs ?_
                      refine Seq.p rfl Ev.move ?_
                      refine Seq.p rfl (Ev.convU64W it.int it.uint64) ?_
                      refine Seq.p rfl Ev.move ?_
                      refine Seq.p rfl Ev.ge ?_
                      refine Seq.p rfl Ev.assign ?_
                      refine Seq.p rfl Ev.assign ?_
                      refine Seq.nil ?_
                      refine JC.ret ?_
                      -- return 9
                      show retQ _ _ _ _ _ _ _ _
                      refine ret2 (hp := Part.nil _) (hpost := ?_)
                      simp [eventValueF, *]
                    · -- else_t45
                      refine JC.rs ?_
                      refine Seq.p rfl Ev.eq ?_
                      refine Seq.p rfl Ev.assign ?_
                      refine Seq.nil ?_
                      first | refine JC.c (ht := fun c49 => ?_) (hf := fun c49 => ?_) | refine JC.cb (ht := fun c49 => ?_) (hf := fun c49 => ?_)
                      · -- then_t49
                        refine JC.reg ?_
                        refine Seq.p rfl (Ev.faB fd.api_Event_11) ?_
                        refine Seq.p rfl (Ev.ldB sc.int) ?_
                        refine Seq.p rfl Ev.assign ?_
                        refine Seq.nil ?_
                        refine JC.rs ?_
                        refine Seq.p rfl Ev.move ?_
                        refine Seq.p rfl (Ev.convU64W it.int it.uint64) ?_
                        refine Seq.p rfl Ev.move ?_
                        refine Seq.p rfl Ev.ge ?_
                        refine Seq.p rfl Ev.assign ?_
                        refine Seq.p rfl Ev.assign ?_
                        refine Seq.nil ?_
                        refine JC.ret ?_
                        -- return 10
                        show retQ _ _ _ _ _ _ _ _
                        refine ret2 (hp := Part.nil _) (hpost := ?_)
                        simp [eventValueF, *]
                      · -- else_t49
                        refine JC.rs ?_
                        refine Seq.p rfl Ev.eq ?_
                        refine Seq.p rfl Ev.assign ?_
                        refine Seq.nil ?_
                        first | refine JC.c (ht := fun c53 => ?_) (hf := fun c53 => ?_) | refine JC.cb (ht := fun c53 => ?_) (hf := fun c53 => ?_)
                        · -- then_t53
                          refine JC.reg ?_
                          refine Seq.p rfl (Ev.faB fd.api_Event_12) ?_
                          refine Seq.p rfl (Ev.ldB sc.api_Errno) ?_
                          refine Seq.p rfl Ev.assign ?_
                          refine Seq.nil ?_
                          refine JC.rs ?_
                          refine Seq.p rfl Ev.move ?_
                          refine Seq.p rfl (Ev.convU64W it.int it.uint64) ?_
                          refine Seq.p rfl Ev.move ?_
                          refine Seq.p rfl Ev.ge ?_
                          refine Seq.p rfl Ev.assign ?_
                          refine Seq.p rfl Ev.assign ?_
                          refine Seq.nil ?_
                          refine JC.ret ?_
                          -- return 11
                          show retQ _ _ _ _ _ _ _ _
                          refine ret2 (hp := Part.nil _) (hpost := ?_)
                          simp [eventValueF, *]
                        · -- else_t53
                          refine JC.skip ?_
                          refine JC.rs ?_
                          refine Seq.p rfl Ev.move ?_
                          refine Seq.p rfl (Ev.convU64W it.int it.uint64) ?_
                          refine Seq.p rfl Ev.move ?_
                          refine Seq.p rfl Ev.ge ?_
                          refine Seq.p rfl Ev.assign ?_
                          refine Seq.p rfl Ev.assign ?_
                          refine Seq.nil ?_
                          refine JC.ret ?_
                          -- return 12
                          show retQ _ _ _ _ _ _ _ _
                          refine ret2 (hp := Part.nil _) (hpost := ?_)
                          simp [eventValueF, *]
set_option maxHeartbeats 4000000 in
theorem refWithEvent {w : World} {e : Event} {t n : Int} : Spec Go.Proofs.Try.prog 25 #[.agg e.enc.toArray, .int .i64 t, .int .u64 n] w [] (fun u _ => u = .agg (withEventF e t n).enc.toArray) := by
  refine Spec.enter (fn := Go.Proofs.Try.f25) (n := 63) [.agg e.enc.toArray, .int .i64 t, .int .u64 n] Go.Proofs.Try.func25 (by kernel_rfl) rfl Go.Proofs.Try.ntmps25 Go.Proofs.Try.results25 rfl (Own.nil _) ?_
  refine JC.rs ?_
  refine Seq.box (cs := [_, _, _, _, _, _, _, _, _, _, _, _, _]) (k := ?_); intro b3
  refine Seq.alloc (cs := [_, _, _, _, _, _, _, _, _, _, _, _, _]) (hz := z.api_Event) (k := ?_); intro b6
  refine Seq.nil ?_
  refine JC.seq ?_
  refine JC.rs ?_
  refine Seq.p rfl Ev.move ?_
  refine Seq.nil ?_
  refine JC.blk ?_
  refine JC.rs ?_
  refine Seq.p rfl Ev.eq ?_
  refine Seq.p rfl Ev.assign ?_
  refine Seq.nil ?_
  first | refine JC.c (ht := fun c8 => ?_) (hf := fun c8 => ?_) | refine JC.cb (ht := fun c8 => ?_) (hf := fun c8 => ?_)
  · -- then_t8
    refine JC.reg ?_
    refine Seq.p rfl Ev.move ?_
    refine Seq.p rfl (Ev.faB fd.api_Event_0) ?_
    refine Seq.storeN [_, _, _, _, _, _, _, _, _, _, _, _, _] sz.uint64 (k := ?_)
    refine Seq.nil ?_
    refine JC.rs ?_
    refine Seq.p rfl (Ev.ldBA ag.api_Event) ?_
    refine Seq.storeN [_, _, _, _, _, _, _, _, _, _, _, _, _] sz.api_Event (k := ?_)
    refine Seq.nil ?_
    refine JC.ret ?_
    -- return 0
    show retQ _ _ _ _ _ _ _ _
    refine retB1 ag.api_Event (hp := Part.nil _) (hpost := ?_)
    unfold withEventF
    simp only [*, if_true, if_false]
    rfl
  · -- else_t8
    refine JC.rs ?_
    refine Seq.p rfl Ev.eq ?_
    refine Seq.p rfl Ev.assign ?_
    refine Seq.nil ?_
    first | refine JC.c (ht := fun c12 => ?_) (hf := fun c12 => ?_) | refine JC.cb (ht := fun c12 => ?_) (hf := fun c12 => ?_)
    · -- then_t12
      refine JC.reg ?_
      refine Seq.p rfl Ev.move ?_
      refine Seq.p rfl (Ev.faB fd.api_Event_2) ?_
      refine Seq.storeN [_, _, _, _, _, _, _, _, _, _, _, _, _] sz.uint64 (k := ?_)
      refine Seq.nil ?_
      refine JC.rs ?_
      refine Seq.p rfl (Ev.ldBA ag.api_Event) ?_
      refine Seq.storeN [_, _, _, _, _, _, _, _, _, _, _, _, _] sz.api_Event (k := ?_)
      refine Seq.nil ?_
      refine JC.ret ?_
      -- return 1
      show retQ _ _ _ _ _ _ _ _
      refine retB1 ag.api_Event (hp := Part.nil _) (hpost := ?_)
      unfold withEventF
      simp only [*, if_true, if_false]
      rfl
    · -- else_t12
      refine JC.rs ?_
      refine Seq.p rfl Ev.eq ?_
      refine Seq.p rfl Ev.assign ?_
      refine Seq.nil ?_
      first | refine JC.c (ht := fun c16 => ?_) (hf := fun c16 => ?_) | refine JC.cb (ht := fun c16 => ?_) (hf := fun c16 => ?_)
      · -- then_t16
        refine JC.reg ?_
        refine Seq.p rfl Ev.move ?_
        refine Seq.p rfl (Ev.faB fd.api_Event_4) ?_
        refine Seq.storeN [_, _, _, _, _, _, _, _, _, _, _, _, _] sz.uint64 (k := ?_)
        refine Seq.nil ?_
        refine JC.rs ?_
        refine Seq.p rfl (Ev.ldBA ag.api_Event) ?_
        refine Seq.storeN [_, _, _, _, _, _, _, _, _, _, _, _, _] sz.api_Event (k := ?_)
        refine Seq.nil ?_
        refine JC.ret ?_
        -- return 2
        show retQ _ _ _ _ _ _ _ _
        refine retB1 ag.api_Event (hp := Part.nil _) (hpost := ?_)
        unfold withEventF
        simp only [*, if_true, if_false]
        rfl
      · -- else_t16
        refine JC.rs ?_
        refine Seq.p rfl Ev.eq ?_
        refine Seq.p rfl Ev.assign ?_
        refine Seq.nil ?_
        first | refine JC.c (ht := fun c20 => ?_) (hf := fun c20 => ?_) | refine JC.cb (ht := fun c20 => ?_) (hf := fun c20 => ?_)
        · -- then_t20
          refine JC.reg ?_
          refine Seq.p rfl Ev.move ?_
          refine Seq.p rfl (Ev.faB fd.api_Event_3) ?_
          refine Seq.storeN [_, _, _, _, _, _, _, _, _, _, _, _, _] sz.uint64 (k := ?_)
          refine Seq.nil ?_
          refine JC.rs ?_
          refine Seq.p rfl (Ev.ldBA ag.api_Event) ?_
          refine Seq.storeN [_, _, _, _, _, _, _, _, _, _, _, _, _] sz.api_Event (k := ?_)
          refine Seq.nil ?_
          refine JC.ret ?_
          -- return 3
          show retQ _ _ _ _ _ _ _ _
          refine retB1 ag.api_Event (hp := Part.nil _) (hpost := ?_)
          unfold withEventF
          simp only [*, if_true, if_false]
          rfl
        · -- else_t20
          refine JC.rs ?_
          refine Seq.p rfl Ev.eq ?_
          refine Seq.p rfl Ev.assign ?_
          refine Seq.nil ?_
          first | refine JC.c (ht := fun c24 => ?_) (hf := fun c24 => ?_) | refine JC.cb (ht := fun c24 => ?_) (hf := fun c24 => ?_)
          · -- then_t24
            refine JC.reg ?_
            refine Seq.p rfl Ev.move ?_
            refine Seq.p rfl (Ev.convU32W it.uint64 it.uint32) ?_
            refine Seq.p rfl (Ev.faB fd.api_Event_5) ?_
            refine Seq.storeN [_, _, _, _, _, _, _, _, _, _, _, _, _] sz.uint32 (k := ?_)
            refine Seq.nil ?_
            refine JC.rs ?_
            refine Seq.p rfl (Ev.ldBA ag.api_Event) ?_
            refine Seq.storeN [_, _, _, _, _, _, _, _, _, _, _, _, _] sz.api_Event (k := ?_)
            refine Seq.nil ?_
            refine JC.ret ?_
            -- return 4
            show retQ _ _ _ _ _ _ _ _
            refine retB1 ag.api_Event (hp := Part.nil _) (hpost := ?_)
            unfold withEventF
            simp only [*, if_true, if_false]
            rfl
          · -- else_t24
            refine JC.rs ?_
            refine Seq.p rfl Ev.eq ?_
            refine Seq.p rfl Ev.assign ?_
            refine Seq.nil ?_
            first | refine JC.c (ht := fun c29 => ?_) (hf := fun c29 => ?_) | refine JC.cb (ht := fun c29 => ?_) (hf := fun c29 => ?_)
            · -- then_t29
              refine JC.reg ?_
              refine Seq.p rfl Ev.move ?_
              refine Seq.p rfl (Ev.faB fd.api_Event_9) ?_
              refine Seq.storeN [_, _, _, _, _, _, _, _, _, _, _, _, _] sz.uint64 (k := ?_)
              refine Seq.nil ?_
              refine JC.rs ?_
              refine Seq.p rfl (Ev.ldBA ag.api_Event) ?_
              refine Seq.storeN [_, _, _, _, _, _, _, _, _, _, _, _, _] sz.api_Event (k := ?_)
              refine Seq.nil ?_
              refine JC.ret ?_
              -- return 5
              show retQ _ _ _ _ _ _ _ _
              refine retB1 ag.api_Event (hp := Part.nil _) (hpost := ?_)
              unfold withEventF
              simp only [*, if_true, if_false]
              rfl
            · -- else_t29
              refine JC.rs ?_
              refine Seq.p rfl Ev.eq ?_
              refine Seq.p rfl Ev.assign ?_
              refine Seq.nil ?_
              first | refine JC.c (ht := fun c33 => ?_) (hf := fun c33 => ?_) | refine JC.cb (ht := fun c33 => ?_) (hf := fun c33 => ?_)
              · -- then_t33
                refine JC.reg ?_
                refine Seq.p rfl Ev.move ?_
                refine Seq.p rfl (Ev.faB fd.api_Event_10) ?_
                refine Seq.storeN [_, _, _, _, _, _, _, _, _, _, _, _, _] sz.uint64 (k := ?_)
                refine Seq.nil ?_
                refine JC.rs ?_
                refine Seq.p rfl (Ev.ldBA ag.api_Event) ?_
                refine Seq.storeN [_, _, _, _, _, _, _, _, _, _, _, _, _] sz.api_Event (k := ?_)
                refine Seq.nil ?_
                refine JC.ret ?_
                -- return 6
                show retQ _ _ _ _ _ _ _ _
                refine retB1 ag.api_Event (hp := Part.nil _) (hpost := ?_)
                unfold withEventF
                simp only [*, if_true, if_false]
                rfl
              · -- else_t33
                refine JC.rs ?_
                refine Seq.p rfl Ev.eq ?_
                refine Seq.p rfl Ev.assign ?_
                refine Seq.nil ?_
                first | refine JC.c (ht := fun c37 => ?_) (hf := fun c37 => ?_) | refine JC.cb (ht := fun c37 => ?_) (hf := fun c37 => ?_)
                · -- then_t37
                  refine JC.reg ?_
                  refine Seq.p rfl Ev.move ?_
                  refine Seq.p rfl (Ev.convW it.uint64 it.int) ?_
                  refine Seq.p rfl (Ev.faB fd.api_Event_6) ?_
                  refine Seq.storeN [_, _, _, _, _, _, _, _, _, _, _, _, _] sz.int (k := ?_)
                  refine Seq.nil ?_
                  refine JC.rs ?_
                  refine Seq.p rfl (Ev.ldBA ag.api_Event) ?_
                  refine Seq.storeN [_, _, _, _, _, _, _, _, _, _, _, _, _] sz.api_Event (k := ?_)
                  refine Seq.nil ?_
                  refine JC.ret ?_
                  -- return 7
                  show retQ _ _ _ _ _ _ _ _
                  refine retB1 ag.api_Event (hp := Part.nil _) (hpost := ?_)
                  unfold withEventF
                  simp only [*, if_true, if_false]
                  rfl
                · -- else_t37
                  refine JC.rs ?_
                  refine Seq.p rfl Ev.eq ?_
                  refine Seq.p rfl Ev.assign ?_
                  refine Seq.nil ?_
                  first | refine JC.c (ht := fun c42 => ?_) (hf := fun c42 => ?_) | refine JC.cb (ht := fun c42 => ?_) (hf := fun c42 => ?_)
                  · -- then_t42
                    refine JC.reg ?_
                    refine Seq.p rfl Ev.move ?_
                    refine Seq.p rfl (Ev.convW it.uint64 it.int) ?_
                    refine Seq.p rfl (Ev.faB fd.api_Event_7) ?_
                    refine Seq.storeN [_, _, _, _, _, _, _, _, _, _, _, _, _] sz.int (k := ?_)
                    refine Seq.nil ?_
                    refine JC.rs ?_
                    refine Seq.p rfl (Ev.ldBA ag.api_Event) ?_
                    refine Seq.storeN [_, _, _, _, _, _, _, _, _, _, _, _, _] sz.api_Event (k := ?_)
                    refine Seq.nil ?_
                    refine JC.ret ?_
                    -- return 8
                    show retQ _ _ _ _ _ _ _ _
                    refine retB1 ag.api_Event (hp := Part.nil _) (hpost := ?_)
                    unfold withEventF
                    simp only [*, if_true, if_false]
                    rfl
                  · -- else_t42
                    refine JC.rs ?_
                    refine Seq.p rfl Ev.eq ?_
                    refine Seq.p rfl Ev.assign ?_
                    refine Seq.nil ?_
                    first | refine JC.c (ht := fun c47 => ?_) (hf := fun c47 => ?_) | refine JC.cb (ht := fun c47 => ?_) (hf := fun c47 => ?_)
                    · -- then_t47
                      refine JC.reg ?_
                      refine Seq.p rfl Ev.move ?_
                      refine Seq.p rfl (Ev.convW it.uint64 it.int) ?_
                      refine Seq.p rfl (Ev.faB fd.api_Event_8) ?_
                      refine Seq.storeN [_, _, _, _, _, _, _, _, _, _, _, _, _] sz.int (k := ?_)
                      refine Seq.nil ?_
                      refine JC.rs ?_
                      refine Seq.p rfl (Ev.ldBA ag.api_Event) ?_
                      refine Seq.storeN [_, _, _, _, _, _, _, _, _, _, _, _, _] sz.api_Event (k := ?_)
                      refine Seq.nil ?_
                      refine JC.ret ?_
                      -- return 9
                      show retQ _ _ _ _ _ _ _ _
                      refine retB1 ag.api_Event (hp := Part.nil _) (hpost := ?_)
                      unfold withEventF
                      simp only [*, if_true, if_false]
                      rfl
                    · -- else_t47
                      refine JC.rs ?_
                      refine Seq.p rfl Ev.eq ?_
                      refine Seq.p rfl Ev.assign ?_
                      refine Seq.nil ?_
                      first | refine JC.c (ht := fun c52 => ?_) (hf := fun c52 => ?_) | refine JC.cb (ht := fun c52 => ?_) (hf := fun c52 => ?_)
                      · -- then_t52
                        refine JC.reg ?_
                        refine Seq.p rfl Ev.move ?_
                        refine Seq.p rfl (Ev.convW it.uint64 it.int) ?_
                        refine Seq.p rfl (Ev.faB fd.api_Event_11) ?_
                        refine Seq.storeN [_, _, _, _, _, _, _, _, _, _, _, _, _] sz.int (k := ?_)
                        refine Seq.nil ?_
                        refine JC.rs ?_
                        refine Seq.p rfl (Ev.ldBA ag.api_Event) ?_
                        refine Seq.storeN [_, _, _, _, _, _, _, _, _, _, _, _, _] sz.api_Event (k := ?_)
                        refine Seq.nil ?_
                        refine JC.ret ?_
                        -- return 10
                        show retQ _ _ _ _ _ _ _ _
                        refine retB1 ag.api_Event (hp := Part.nil _) (hpost := ?_)
                        unfold withEventF
                        simp only [*, if_true, if_false]
                        rfl
                      · -- else_t52
                        refine JC.rs ?_
                        refine Seq.p rfl Ev.eq ?_
                        refine Seq.p rfl Ev.assign ?_
                        refine Seq.nil ?_
                        first | refine JC.c (ht := fun c57 => ?_) (hf := fun c57 => ?_) | refine JC.cb (ht := fun c57 => ?_) (hf := fun c57 => ?_)
                        · -- then_t57
                          refine JC.reg ?_
                          refine Seq.p rfl Ev.move ?_
                          refine Seq.p rfl (Ev.convW it.uint64 it.api_Errno) ?_
                          refine Seq.p rfl (Ev.faB fd.api_Event_12) ?_
                          refine Seq.storeN [_, _, _, _, _, _, _, _, _, _, _, _, _] sz.api_Errno (k := ?_)
                          refine Seq.nil ?_
                          refine JC.rs ?_
                          refine Seq.p rfl (Ev.ldBA ag.api_Event) ?_
                          refine Seq.storeN [_, _, _, _, _, _, _, _, _, _, _, _, _] sz.api_Event (k := ?_)
                          refine Seq.nil ?_
                          refine JC.ret ?_
                          -- return 11
                          show retQ _ _ _ _ _ _ _ _
                          refine retB1 ag.api_Event (hp := Part.nil _) (hpost := ?_)
                          unfold withEventF
                          simp only [*, if_true, if_false]
                          rfl
                        · -- else_t57
                          refine JC.skip ?_
                          refine JC.rs ?_
                          refine Seq.p rfl (Ev.ldBA ag.api_Event) ?_
                          refine Seq.storeN [_, _, _, _, _, _, _, _, _, _, _, _, _] sz.api_Event (k := ?_)
                          refine Seq.nil ?_
                          refine JC.ret ?_
                          -- return 12
                          show retQ _ _ _ _ _ _ _ _
                          refine retB1 ag.api_Event (hp := Part.nil _) (hpost := ?_)
                          unfold withEventF
                          simp only [*, if_true, if_false]
                          rfl
end Go.Rx
