/- Parts of the proof. -/
import Derived.Test.YthpejgmkiomfhaaDoorPart1
import Derived.Test.YthpejgmkiomfhaaDoorRows
import Derived.Below
import Derived.ChangeOld
import Derived.ShutString
import Derived.Shelf.Strconv.Atoi
import Derived.Shelf.Strconv.Itoa0
import Derived.Shelf.Strconv.Itoa1
import Derived.Shelf.LaysM
import Derived.Shelf.Strconv.Itoa2
import Derived.Shelf.Strconv.Itoa3
import Derived.Shelf.Strconv.AtoiErrFast
import Derived.Shelf.Strconv.ParseIntEmpty
import Derived.Shelf.Strconv.AtoiFail
import Derived.Shelf.Strconv.Clone
import Derived.Shelf.Strconv.SyntaxError
import Derived.Shelf.LaysC
import Derived.Shelf.Strconv.ToError
import Derived.Shelf.Strconv.Lower
import Derived.Shelf.Strconv.ParseUint10
import Derived.Shelf.Strconv.ParseUint10Empty
import Derived.Shelf.Strconv.ParseUint10Any
import Derived.Shelf.Strconv.ParseInt10
import Derived.Shelf.Strconv.AtoiLong
import Derived.Shelf.Strconv.AtoiInnerAll
import Derived.Shelf.Strconv.RangeError
import Derived.Shelf.Strconv.ToErrorRange
import Derived.Shelf.Strconv.AtoiAll
import Derived.Shelf.Strconv.ErrVarAll
import Derived.Shelf.Strconv.ParseUintEmpty
import Derived.Shelf.Strconv.ParseUint10b64
import Derived.Shelf.Strconv.ParseUint10b32
import Derived.Shelf.Strconv.ParseUint10b16
import Derived.Shelf.Strconv.ParseUint10b8
import Derived.Shelf.Strings.Search1
import Derived.Shelf.Strings.Search2
import Derived.Shelf.Strings.Cut
import Derived.Shelf.Strings.Shaped
import Derived.Shelf.GgClosure.StringsIndexFunc
import Derived.Ground.GgwProg
import Derived.Shelf.GgClosure.StringsIndexFuncTop
import Derived.Shelf.Strings.FuncGrows
import Derived.Shelf.Slices.Turned
import Derived.Shelf.Bytes.SlIndexAt
import Derived.Shelf.Bytes.SlSearch0
import Derived.Shelf.Bytes.IndexByte
import Derived.Test.YthpejgmkiomfhaaDoorProg
set_option linter.unusedVariables false
set_option linter.unusedSimpArgs false
namespace Go.Rx
open Go Go.RowKit
set_option linter.unusedVariables false
set_option linter.unusedSimpArgs false
structure Event where
  seq : Int
  kind : Int
  id : Int
  other : Int
  target : Int
  member : Int
  side : Int
  type : Int
  price : Int
  qty : Int
  peak : Int
  reason : Int
  code : Int
deriving DecidableEq, Inhabited
def Event.enc (e : Event) : List Value := [.int .u64 e.seq, .int .i64 e.kind, .int .u64 e.id, .int .u64 e.other, .int .u64 e.target, .int .u32 e.member, .int .i64 e.side, .int .i64 e.type, .int .i64 e.price, .int .u64 e.qty, .int .u64 e.peak, .int .i64 e.reason, .int .i64 e.code]
theorem Event.eqL_enc (x y : Event) : eqL x.enc y.enc = decide (x = y) := by
  cases x; cases y
  simp [Event.enc, eqL, eqV, Bool.decide_and]
def eventOfF (k : Int) (ms : List (Int × Int)) : Event :=
  ⟨iget ms 34, k, iget ms 11, iget ms 37, iget ms 41, iget ms 1 % 4294967296, s64 (iget ms 54), s64 (iget ms 40), s64 (iget ms 44), iget ms 38, iget ms 210, s64 (iget ms 378), s64 (iget ms 103)⟩
def eventValueF (e : Event) (t : Int) : Int × Bool :=
  if t = 34 then (e.seq, true) else if t = 11 then (e.id, true) else if t = 41 then (e.target, true) else if t = 37 then (e.other, true) else if t = 1 then (e.member % 18446744073709551616, true) else if t = 38 then (e.qty, true) else if t = 210 then (e.peak, true)
  else
    let n := if t = 54 then e.side else if t = 40 then e.type else if t = 44 then e.price else if t = 378 then e.reason else if t = 103 then e.code else 0
    (n % 18446744073709551616, decide (0 ≤ n))
def withEventF (e : Event) (t n : Int) : Event :=
  if t = 34 then { e with seq := n } else if t = 11 then { e with id := n } else if t = 41 then { e with target := n } else if t = 37 then { e with other := n } else if t = 1 then { e with member := n % 4294967296 } else if t = 38 then { e with qty := n } else if t = 210 then { e with peak := n }
  else if t = 54 then { e with side := s64 n } else if t = 40 then { e with type := s64 n } else if t = 44 then { e with price := s64 n } else if t = 378 then { e with reason := s64 n } else if t = 103 then { e with code := s64 n } else e
set_option maxHeartbeats 2000000 in
theorem msgEventOf {w : World} {k : Int} {v : Value} {ms : List (Int × Int)} (hm : RMp .i64 .u64 w [] v ms) : Spec Go.Proofs.Tryd.prog 54 #[.int .i64 k, v] w [] (fun u _ => u = .agg (eventOfF k ms).enc.toArray) := by
  refine Spec.enter (fn := Go.Proofs.Tryd.f54) (n := 37) [.int .i64 k, v] Go.Proofs.Tryd.func54 (by kernel_rfl) rfl Go.Proofs.Tryd.ntmps54 Go.Proofs.Tryd.results54 rfl (Own.nil _) ?_
  refine JC.rs ?_
  refine Seq.alloc (cs := [_, _, _, _, _, _, _, _, _, _, _, _, _]) (hz := z.api_Event) (k := ?_); intro b4
  refine Seq.nil ?_
  refine JC.rs ?_
  refine Seq.p rfl Ev.move ?_
  refine Seq.p rfl (Ev.mapI mp.m_int_uint64 z.uint64 hm.r) ?_
  refine Seq.p rfl Ev.move ?_
  refine Seq.p rfl Ev.move ?_
  refine Seq.p rfl (Ev.mapI mp.m_int_uint64 z.uint64 hm.r) ?_
  refine Seq.p rfl Ev.move ?_
  refine Seq.p rfl (Ev.mapI mp.m_int_uint64 z.uint64 hm.r) ?_
  refine Seq.p rfl Ev.move ?_
  refine Seq.p rfl (Ev.mapI mp.m_int_uint64 z.uint64 hm.r) ?_
  refine Seq.p rfl Ev.move ?_
  refine Seq.p rfl (Ev.mapI mp.m_int_uint64 z.uint64 hm.r) ?_
  refine Seq.p rfl (Ev.convU32W it.uint64 it.uint32) ?_
  refine Seq.p rfl Ev.move ?_
  refine Seq.p rfl (Ev.mapI mp.m_int_uint64 z.uint64 hm.r) ?_
  refine Seq.p rfl (Ev.convW it.uint64 it.int) ?_
  refine Seq.p rfl Ev.move ?_
  refine Seq.p rfl (Ev.mapI mp.m_int_uint64 z.uint64 hm.r) ?_
  refine Seq.p rfl (Ev.convW it.uint64 it.int) ?_
  refine Seq.p rfl Ev.move ?_
  refine Seq.p rfl (Ev.mapI mp.m_int_uint64 z.uint64 hm.r) ?_
  refine Seq.p rfl (Ev.convW it.uint64 it.int) ?_
  refine Seq.p rfl Ev.move ?_
  refine Seq.p rfl (Ev.mapI mp.m_int_uint64 z.uint64 hm.r) ?_
  refine Seq.p rfl Ev.move ?_
  refine Seq.p rfl (Ev.mapI mp.m_int_uint64 z.uint64 hm.r) ?_
  refine Seq.p rfl Ev.move ?_
  refine Seq.p rfl (Ev.mapI mp.m_int_uint64 z.uint64 hm.r) ?_
  refine Seq.p rfl (Ev.convW it.uint64 it.int) ?_
  refine Seq.p rfl Ev.move ?_
  refine Seq.p rfl (Ev.mapI mp.m_int_uint64 z.uint64 hm.r) ?_
  refine Seq.p rfl (Ev.convW it.uint64 it.api_Errno) ?_
  refine Seq.p rfl (Ev.buildS [_, _, _, _, _, _, _, _, _, _, _, _, _] pl.api_Event z.api_Event) ?_
  refine Seq.storeN [_, _, _, _, _, _, _, _, _, _, _, _, _] sz.api_Event (k := ?_)
  refine Seq.nil ?_
  refine JC.ret ?_
  -- return 0
  show retQ _ _ _ _ _ _ _ _
  refine retB1 ag.api_Event (hp := Part.nil _) (hpost := ?_)
  rfl
set_option maxHeartbeats 4000000 in
theorem refEventValue {w : World} {e : Event} {t : Int} : Spec Go.Proofs.Tryd.prog 58 #[.agg e.enc.toArray, .int .i64 t] w [] (fun u _ => u = .tuple #[.int .u64 (eventValueF e t).1, .bool (eventValueF e t).2]) := by
  refine Spec.enter (fn := Go.Proofs.Tryd.f58) (n := 61) [.agg e.enc.toArray, .int .i64 t] Go.Proofs.Tryd.func58 (by kernel_rfl) rfl Go.Proofs.Tryd.ntmps58 Go.Proofs.Tryd.results58 rfl (Own.nil _) ?_
  refine JC.rs ?_
  refine Seq.box (cs := [_, _, _, _, _, _, _, _, _, _, _, _, _]) (k := ?_); intro b2
  refine Seq.p rfl Ev.assign ?_
  refine Seq.p rfl Ev.assign ?_
  refine Seq.nil ?_
  refine JC.rs ?_
  refine Seq.p rfl Ev.assign ?_
  refine Seq.nil ?_
  refine JC.seq ?_
  refine JC.rs ?_
  refine Seq.p rfl Ev.move ?_
  refine Seq.nil ?_
  refine JC.blk ?_
  refine JC.rs ?_
  refine Seq.p rfl Ev.eq ?_
  refine Seq.p rfl Ev.assign ?_
  refine Seq.nil ?_
  first | refine JC.c (ht := fun c8 => ?_) (hf := fun c8 => ?_) | refine JC.cb (ht := fun c8 => ?_) (hf := fun c8 => ?_)
  · -- then_t8
    refine JC.rs ?_
    refine Seq.p rfl (Ev.faB fd.api_Event_0) ?_
    refine Seq.p rfl (Ev.ldB sc.uint64) ?_
    refine Seq.p rfl Ev.assign ?_
    refine Seq.p rfl Ev.assign ?_
    refine Seq.nil ?_
    refine JC.ret ?_
    -- return 0
    show retQ _ _ _ _ _ _ _ _
    refine ret2 (hp := Part.nil _) (hpost := ?_)
    simp [eventValueF, *]
  · -- else_t8
    refine JC.rs ?_
    refine Seq.p rfl Ev.eq ?_
    refine Seq.p rfl Ev.assign ?_
    refine Seq.nil ?_
    first | refine JC.c (ht := fun c12 => ?_) (hf := fun c12 => ?_) | refine JC.cb (ht := fun c12 => ?_) (hf := fun c12 => ?_)
    · -- then_t12
      refine JC.rs ?_
      refine Seq.p rfl (Ev.faB fd.api_Event_2) ?_
      refine Seq.p rfl (Ev.ldB sc.uint64) ?_
      refine Seq.p rfl Ev.assign ?_
      refine Seq.p rfl Ev.assign ?_
      refine Seq.nil ?_
      refine JC.ret ?_
      -- return 1
      show retQ _ _ _ _ _ _ _ _
      refine ret2 (hp := Part.nil _) (hpost := ?_)
      simp [eventValueF, *]
    · -- else_t12
      refine JC.rs ?_
      refine Seq.p rfl Ev.eq ?_
      refine Seq.p rfl Ev.assign ?_
      refine Seq.nil ?_
      first | refine JC.c (ht := fun c16 => ?_) (hf := fun c16 => ?_) | refine JC.cb (ht := fun c16 => ?_) (hf := fun c16 => ?_)
      · -- then_t16
        refine JC.rs ?_
        refine Seq.p rfl (Ev.faB fd.api_Event_4) ?_
        refine Seq.p rfl (Ev.ldB sc.uint64) ?_
        refine Seq.p rfl Ev.assign ?_
        refine Seq.p rfl Ev.assign ?_
        refine Seq.nil ?_
        refine JC.ret ?_
        -- return 2
        show retQ _ _ _ _ _ _ _ _
        refine ret2 (hp := Part.nil _) (hpost := ?_)
        simp [eventValueF, *]
      · -- else_t16
        refine JC.rs ?_
        refine Seq.p rfl Ev.eq ?_
        refine Seq.p rfl Ev.assign ?_
        refine Seq.nil ?_
        first | refine JC.c (ht := fun c20 => ?_) (hf := fun c20 => ?_) | refine JC.cb (ht := fun c20 => ?_) (hf := fun c20 => ?_)
        · -- then_t20
          refine JC.rs ?_
          refine Seq.p rfl (Ev.faB fd.api_Event_3) ?_
          refine Seq.p rfl (Ev.ldB sc.uint64) ?_
          refine Seq.p rfl Ev.assign ?_
          refine Seq.p rfl Ev.assign ?_
          refine Seq.nil ?_
          refine JC.ret ?_
          -- return 3
          show retQ _ _ _ _ _ _ _ _
          refine ret2 (hp := Part.nil _) (hpost := ?_)
          simp [eventValueF, *]
        · -- else_t20
          refine JC.rs ?_
          refine Seq.p rfl Ev.eq ?_
          refine Seq.p rfl Ev.assign ?_
          refine Seq.nil ?_
          first | refine JC.c (ht := fun c24 => ?_) (hf := fun c24 => ?_) | refine JC.cb (ht := fun c24 => ?_) (hf := fun c24 => ?_)
          · -- then_t24
            refine JC.rs ?_
            refine Seq.p rfl (Ev.faB fd.api_Event_5) ?_
            refine Seq.p rfl (Ev.ldB sc.uint32) ?_
            refine Seq.p rfl (Ev.convU64W it.uint32 it.uint64) ?_
            refine Seq.p rfl Ev.assign ?_
            refine Seq.p rfl Ev.assign ?_
            refine Seq.nil ?_
            refine JC.ret ?_
            -- return 4
            show retQ _ _ _ _ _ _ _ _
            refine ret2 (hp := Part.nil _) (hpost := ?_)
            simp [eventValueF, *]
          · -- else_t24
            refine JC.rs ?_
            refine Seq.p rfl Ev.eq ?_
            refine Seq.p rfl Ev.assign ?_
            refine Seq.nil ?_
            first | refine JC.c (ht := fun c29 => ?_) (hf := fun c29 => ?_) | refine JC.cb (ht := fun c29 => ?_) (hf := fun c29 => ?_)
            · -- then_t29
              refine JC.rs ?_
              refine Seq.p rfl (Ev.faB fd.api_Event_9) ?_
              refine Seq.p rfl (Ev.ldB sc.uint64) ?_
              refine Seq.p rfl Ev.assign ?_
              refine Seq.p rfl Ev.assign ?_
              refine Seq.nil ?_
              refine JC.ret ?_
              -- return 5
              show retQ _ _ _ _ _ _ _ _
              refine ret2 (hp := Part.nil _) (hpost := ?_)
              simp [eventValueF, *]
            · -- else_t29
              refine JC.rs ?_
              refine Seq.p rfl Ev.eq ?_
              refine Seq.p rfl Ev.assign ?_
              refine Seq.nil ?_
              first | refine JC.c (ht := fun c33 => ?_) (hf := fun c33 => ?_) | refine JC.cb (ht := fun c33 => ?_) (hf := fun c33 => ?_)
              · -- then_t33
                refine JC.rs ?_
                refine Seq.p rfl (Ev.faB fd.api_Event_10) ?_
                refine Seq.p rfl (Ev.ldB sc.uint64) ?_
                refine Seq.p rfl Ev.assign ?_
                refine Seq.p rfl Ev.assign ?_
                refine Seq.nil ?_
                refine JC.ret ?_
                -- return 6
                show retQ _ _ _ _ _ _ _ _
                refine ret2 (hp := Part.nil _) (hpost := ?_)
                simp [eventValueF, *]
              · -- else_t33
                refine JC.rs ?_
                refine Seq.p rfl Ev.eq ?_
                refine Seq.p rfl Ev.assign ?_
                refine Seq.nil ?_
                first | refine JC.c (ht := fun c37 => ?_) (hf := fun c37 => ?_) | refine JC.cb (ht := fun c37 => ?_) (hf := fun c37 => ?_)
                · -- then_t37
                  refine JC.reg ?_
                  refine Seq.p rfl (Ev.faB fd.api_Event_6) ?_
                  refine Seq.p rfl (Ev.ldB sc.int) ?_
                  refine Seq.p rfl Ev.assign ?_
                  refine Seq.nil ?_
                  refine JC.rs ?_
                  refine Seq.p rfl Ev.move ?_
                  refine Seq.p rfl (Ev.convU64W it.int it.uint64) ?_
                  refine Seq.p rfl Ev.move ?_
                  refine Seq.p rfl Ev.ge ?_
                  refine Seq.p rfl Ev.assign ?_
                  refine Seq.p rfl Ev.assign ?_
                  refine Seq.nil ?_
                  refine JC.ret ?_
                  -- return 7
                  show retQ _ _ _ _ _ _ _ _
                  refine ret2 (hp := Part.nil _) (hpost := ?_)
                  simp [eventValueF, *]
                · -- else_t37
                  refine JC.rs ?_
                  refine Seq.p rfl Ev.eq ?_
                  refine Seq.p rfl Ev.assign ?_
                  refine Seq.nil ?_
                  first | refine JC.c (ht := fun c41 => ?_) (hf := fun c41 => ?_) | refine JC.cb (ht := fun c41 => ?_) (hf := fun c41 => ?_)
                  · -- then_t41
                    refine JC.reg ?_
                    refine Seq.p rfl (Ev.faB fd.api_Event_7) ?_
                    refine Seq.p rfl (Ev.ldB sc.int) ?_
                    refine Seq.p rfl Ev.assign ?_
                    refine Seq.nil ?_
                    refine JC.rs ?_
                    refine Seq.p rfl Ev.move ?_
                    refine Seq.p rfl (Ev.convU64W it.int it.uint64) ?_
                    refine Seq.p rfl Ev.move ?_
                    refine Seq.p rfl Ev.ge ?_
                    refine Seq.p rfl Ev.assign ?_
                    refine Seq.p rfl Ev.assign ?_
                    refine Seq.nil ?_
                    refine JC.ret ?_
                    -- return 8
                    show retQ _ _ _ _ _ _ _ _
                    refine ret2 (hp := Part.nil _) (hpost := ?_)
                    simp [eventValueF, *]
                  · -- else_t41
                    refine JC.rs ?_
                    refine Seq.p rfl Ev.eq ?_
                    refine Seq.p rfl Ev.assign ?_
                    refine Seq.nil ?_
                    first | refine JC.c (ht := fun c45 => ?_) (hf := fun c45 => ?_) | refine JC.cb (ht := fun c45 => ?_) (hf := fun c45 => ?_)
                    · -- then_t45
                      refine JC.reg ?_
                      refine Seq.p rfl (Ev.faB fd.api_Event_8) ?_
                      refine Seq.p rfl (Ev.ldB sc.int) ?_
                      refine Seq.p rfl Ev.assign ?_
                      refine Seq.nil ?_
                      refine JC.rs ?_
                      refine Seq.p rfl Ev.move ?_
                      refine Seq.p rfl (Ev.convU64W it.int it.uint64) ?_
                      refine Seq.p rfl Ev.move ?_
                      refine Seq.p rfl Ev.ge ?_
                      refine Seq.p rfl Ev.assign ?_
                      refine Seq.p rfl Ev.assign ?_
                      refine Seq.nil ?_
                      refine JC.ret ?_
                      -- return 9
                      show retQ _ _ _ _ _ _ _ _
                      refine ret2 (hp := Part.nil _) (hpost := ?_)
                      simp [eventValueF, *]
                    · -- else_t45
                      refine JC.rs ?_
                      refine Seq.p rfl Ev.eq ?_
                      refine Seq.p rfl Ev.assign ?_
                      refine Seq.nil ?_
                      first | refine JC.c (ht := fun c49 => ?_) (hf := fun c49 => ?_) | refine JC.cb (ht := fun c49 => ?_) (hf := fun c49 => ?_)
                      · -- then_t49
                        refine JC.reg ?_
                        refine Seq.p rfl (Ev.faB fd.api_Event_11) ?_
                        refine Seq.p rfl (Ev.ldB sc.int) ?_
                        refine Seq.p rfl Ev.assign ?_
                        refine Seq.nil ?_
                        refine JC.rs ?_
                        refine Seq.p rfl Ev.move ?_
                        refine Seq.p rfl (Ev.convU64W it.int it.uint64) ?_
                        refine Seq.p rfl Ev.move ?_
                        refine Seq.p rfl Ev.ge ?_
                        refine Seq.p rfl Ev.assign ?_
                        refine Seq.p rfl Ev.assign ?_
                        refine Seq.nil ?_
                        refine JC.ret ?_
                        -- return 10
                        show retQ _ _ _ _ _ _ _ _
                        refine ret2 (hp := Part.nil _) (hpost := ?_)
                        simp [eventValueF, *]
                      · -- else_t49
                        refine JC.rs ?_
                        refine Seq.p rfl Ev.eq ?_
                        refine Seq.p rfl Ev.assign ?_
                        refine Seq.nil ?_
                        first | refine JC.c (ht := fun c53 => ?_) (hf := fun c53 => ?_) | refine JC.cb (ht := fun c53 => ?_) (hf := fun c53 => ?_)
                        · -- then_t53
                          refine JC.reg ?_
                          refine Seq.p rfl (Ev.faB fd.api_Event_12) ?_
                          refine Seq.p rfl (Ev.ldB sc.api_Errno) ?_
                          refine Seq.p rfl Ev.assign ?_
                          refine Seq.nil ?_
                          refine JC.rs ?_
                          refine Seq.p rfl Ev.move ?_
                          refine Seq.p rfl (Ev.convU64W it.int it.uint64) ?_
                          refine Seq.p rfl Ev.move ?_
                          refine Seq.p rfl Ev.ge ?_
                          refine Seq.p rfl Ev.assign ?_
                          refine Seq.p rfl Ev.assign ?_
                          refine Seq.nil ?_
                          refine JC.ret ?_
                          -- return 11
                          show retQ _ _ _ _ _ _ _ _
                          refine ret2 (hp := Part.nil _) (hpost := ?_)
                          simp [eventValueF, *]
                        · -- else_t53
                          refine JC.skip ?_
                          refine JC.rs ?_
                          refine Seq.p rfl Ev.move ?_
                          refine Seq.p rfl (Ev.convU64W it.int it.uint64) ?_
                          refine Seq.p rfl Ev.move ?_
                          refine Seq.p rfl Ev.ge ?_
                          refine Seq.p rfl Ev.assign ?_
                          refine Seq.p rfl Ev.assign ?_
                          refine Seq.nil ?_
                          refine JC.ret ?_
                          -- return 12
                          show retQ _ _ _ _ _ _ _ _
                          refine ret2 (hp := Part.nil _) (hpost := ?_)
                          simp [eventValueF, *]
set_option maxHeartbeats 4000000 in
theorem refWithEvent {w : World} {e : Event} {t n : Int} : Spec Go.Proofs.Tryd.prog 59 #[.agg e.enc.toArray, .int .i64 t, .int .u64 n] w [] (fun u _ => u = .agg (withEventF e t n).enc.toArray) := by
  refine Spec.enter (fn := Go.Proofs.Tryd.f59) (n := 63) [.agg e.enc.toArray, .int .i64 t, .int .u64 n] Go.Proofs.Tryd.func59 (by kernel_rfl) rfl Go.Proofs.Tryd.ntmps59 Go.Proofs.Tryd.results59 rfl (Own.nil _) ?_
  refine JC.rs ?_
  refine Seq.box (cs := [_, _, _, _, _, _, _, _, _, _, _, _, _]) (k := ?_); intro b3
  refine Seq.alloc (cs := [_, _, _, _, _, _, _, _, _, _, _, _, _]) (hz := z.api_Event) (k := ?_); intro b6
  refine Seq.nil ?_
  refine JC.seq ?_
  refine JC.rs ?_
  refine Seq.p rfl Ev.move ?_
  refine Seq.nil ?_
  refine JC.blk ?_
  refine JC.rs ?_
  refine Seq.p rfl Ev.eq ?_
  refine Seq.p rfl Ev.assign ?_
  refine Seq.nil ?_
  first | refine JC.c (ht := fun c8 => ?_) (hf := fun c8 => ?_) | refine JC.cb (ht := fun c8 => ?_) (hf := fun c8 => ?_)
  · -- then_t8
    refine JC.reg ?_
    refine Seq.p rfl Ev.move ?_
    refine Seq.p rfl (Ev.faB fd.api_Event_0) ?_
    refine Seq.storeN [_, _, _, _, _, _, _, _, _, _, _, _, _] sz.uint64 (k := ?_)
    refine Seq.nil ?_
    refine JC.rs ?_
    refine Seq.p rfl (Ev.ldBA ag.api_Event) ?_
    refine Seq.storeN [_, _, _, _, _, _, _, _, _, _, _, _, _] sz.api_Event (k := ?_)
    refine Seq.nil ?_
    refine JC.ret ?_
    -- return 0
    show retQ _ _ _ _ _ _ _ _
    refine retB1 ag.api_Event (hp := Part.nil _) (hpost := ?_)
    unfold withEventF
    simp only [*, if_true, if_false]
    rfl
  · -- else_t8
    refine JC.rs ?_
    refine Seq.p rfl Ev.eq ?_
    refine Seq.p rfl Ev.assign ?_
    refine Seq.nil ?_
    first | refine JC.c (ht := fun c12 => ?_) (hf := fun c12 => ?_) | refine JC.cb (ht := fun c12 => ?_) (hf := fun c12 => ?_)
    · -- then_t12
      refine JC.reg ?_
      refine Seq.p rfl Ev.move ?_
      refine Seq.p rfl (Ev.faB fd.api_Event_2) ?_
      refine Seq.storeN [_, _, _, _, _, _, _, _, _, _, _, _, _] sz.uint64 (k := ?_)
      refine Seq.nil ?_
      refine JC.rs ?_
      refine Seq.p rfl (Ev.ldBA ag.api_Event) ?_
      refine Seq.storeN [_, _, _, _, _, _, _, _, _, _, _, _, _] sz.api_Event (k := ?_)
      refine Seq.nil ?_
      refine JC.ret ?_
      -- return 1
      show retQ _ _ _ _ _ _ _ _
      refine retB1 ag.api_Event (hp := Part.nil _) (hpost := ?_)
      unfold withEventF
      simp only [*, if_true, if_false]
      rfl
    · -- else_t12
      refine JC.rs ?_
      refine Seq.p rfl Ev.eq ?_
      refine Seq.p rfl Ev.assign ?_
      refine Seq.nil ?_
      first | refine JC.c (ht := fun c16 => ?_) (hf := fun c16 => ?_) | refine JC.cb (ht := fun c16 => ?_) (hf := fun c16 => ?_)
      · -- then_t16
        refine JC.reg ?_
        refine Seq.p rfl Ev.move ?_
        refine Seq.p rfl (Ev.faB fd.api_Event_4) ?_
        refine Seq.storeN [_, _, _, _, _, _, _, _, _, _, _, _, _] sz.uint64 (k := ?_)
        refine Seq.nil ?_
        refine JC.rs ?_
        refine Seq.p rfl (Ev.ldBA ag.api_Event) ?_
        refine Seq.storeN [_, _, _, _, _, _, _, _, _, _, _, _, _] sz.api_Event (k := ?_)
        refine Seq.nil ?_
        refine JC.ret ?_
        -- return 2
        show retQ _ _ _ _ _ _ _ _
        refine retB1 ag.api_Event (hp := Part.nil _) (hpost := ?_)
        unfold withEventF
        simp only [*, if_true, if_false]
        rfl
      · -- else_t16
        refine JC.rs ?_
        refine Seq.p rfl Ev.eq ?_
        refine Seq.p rfl Ev.assign ?_
        refine Seq.nil ?_
        first | refine JC.c (ht := fun c20 => ?_) (hf := fun c20 => ?_) | refine JC.cb (ht := fun c20 => ?_) (hf := fun c20 => ?_)
        · -- then_t20
          refine JC.reg ?_
          refine Seq.p rfl Ev.move ?_
          refine Seq.p rfl (Ev.faB fd.api_Event_3) ?_
          refine Seq.storeN [_, _, _, _, _, _, _, _, _, _, _, _, _] sz.uint64 (k := ?_)
          refine Seq.nil ?_
          refine JC.rs ?_
          refine Seq.p rfl (Ev.ldBA ag.api_Event) ?_
          refine Seq.storeN [_, _, _, _, _, _, _, _, _, _, _, _, _] sz.api_Event (k := ?_)
          refine Seq.nil ?_
          refine JC.ret ?_
          -- return 3
          show retQ _ _ _ _ _ _ _ _
          refine retB1 ag.api_Event (hp := Part.nil _) (hpost := ?_)
          unfold withEventF
          simp only [*, if_true, if_false]
          rfl
        · -- else_t20
          refine JC.rs ?_
          refine Seq.p rfl Ev.eq ?_
          refine Seq.p rfl Ev.assign ?_
          refine Seq.nil ?_
          first | refine JC.c (ht := fun c24 => ?_) (hf := fun c24 => ?_) | refine JC.cb (ht := fun c24 => ?_) (hf := fun c24 => ?_)
          · -- then_t24
            refine JC.reg ?_
            refine Seq.p rfl Ev.move ?_
            refine Seq.p rfl (Ev.convU32W it.uint64 it.uint32) ?_
            refine Seq.p rfl (Ev.faB fd.api_Event_5) ?_
            refine Seq.storeN [_, _, _, _, _, _, _, _, _, _, _, _, _] sz.uint32 (k := ?_)
            refine Seq.nil ?_
            refine JC.rs ?_
            refine Seq.p rfl (Ev.ldBA ag.api_Event) ?_
            refine Seq.storeN [_, _, _, _, _, _, _, _, _, _, _, _, _] sz.api_Event (k := ?_)
            refine Seq.nil ?_
            refine JC.ret ?_
            -- return 4
            show retQ _ _ _ _ _ _ _ _
            refine retB1 ag.api_Event (hp := Part.nil _) (hpost := ?_)
            unfold withEventF
            simp only [*, if_true, if_false]
            rfl
          · -- else_t24
            refine JC.rs ?_
            refine Seq.p rfl Ev.eq ?_
            refine Seq.p rfl Ev.assign ?_
            refine Seq.nil ?_
            first | refine JC.c (ht := fun c29 => ?_) (hf := fun c29 => ?_) | refine JC.cb (ht := fun c29 => ?_) (hf := fun c29 => ?_)
            · -- then_t29
              refine JC.reg ?_
              refine Seq.p rfl Ev.move ?_
              refine Seq.p rfl (Ev.faB fd.api_Event_9) ?_
              refine Seq.storeN [_, _, _, _, _, _, _, _, _, _, _, _, _] sz.uint64 (k := ?_)
              refine Seq.nil ?_
              refine JC.rs ?_
              refine Seq.p rfl (Ev.ldBA ag.api_Event) ?_
              refine Seq.storeN [_, _, _, _, _, _, _, _, _, _, _, _, _] sz.api_Event (k := ?_)
              refine Seq.nil ?_
              refine JC.ret ?_
              -- return 5
              show retQ _ _ _ _ _ _ _ _
              refine retB1 ag.api_Event (hp := Part.nil _) (hpost := ?_)
              unfold withEventF
              simp only [*, if_true, if_false]
              rfl
            · -- else_t29
              refine JC.rs ?_
              refine Seq.p rfl Ev.eq ?_
              refine Seq.p rfl Ev.assign ?_
              refine Seq.nil ?_
              first | refine JC.c (ht := fun c33 => ?_) (hf := fun c33 => ?_) | refine JC.cb (ht := fun c33 => ?_) (hf := fun c33 => ?_)
              · -- then_t33
                refine JC.reg ?_
                refine Seq.p rfl Ev.move ?_
                refine Seq.p rfl (Ev.faB fd.api_Event_10) ?_
                refine Seq.storeN [_, _, _, _, _, _, _, _, _, _, _, _, _] sz.uint64 (k := ?_)
                refine Seq.nil ?_
                refine JC.rs ?_
                refine Seq.p rfl (Ev.ldBA ag.api_Event) ?_
                refine Seq.storeN [_, _, _, _, _, _, _, _, _, _, _, _, _] sz.api_Event (k := ?_)
                refine Seq.nil ?_
                refine JC.ret ?_
                -- return 6
                show retQ _ _ _ _ _ _ _ _
                refine retB1 ag.api_Event (hp := Part.nil _) (hpost := ?_)
                unfold withEventF
                simp only [*, if_true, if_false]
                rfl
              · -- else_t33
                refine JC.rs ?_
                refine Seq.p rfl Ev.eq ?_
                refine Seq.p rfl Ev.assign ?_
                refine Seq.nil ?_
                first | refine JC.c (ht := fun c37 => ?_) (hf := fun c37 => ?_) | refine JC.cb (ht := fun c37 => ?_) (hf := fun c37 => ?_)
                · -- then_t37
                  refine JC.reg ?_
                  refine Seq.p rfl Ev.move ?_
                  refine Seq.p rfl (Ev.convW it.uint64 it.int) ?_
                  refine Seq.p rfl (Ev.faB fd.api_Event_6) ?_
                  refine Seq.storeN [_, _, _, _, _, _, _, _, _, _, _, _, _] sz.int (k := ?_)
                  refine Seq.nil ?_
                  refine JC.rs ?_
                  refine Seq.p rfl (Ev.ldBA ag.api_Event) ?_
                  refine Seq.storeN [_, _, _, _, _, _, _, _, _, _, _, _, _] sz.api_Event (k := ?_)
                  refine Seq.nil ?_
                  refine JC.ret ?_
                  -- return 7
                  show retQ _ _ _ _ _ _ _ _
                  refine retB1 ag.api_Event (hp := Part.nil _) (hpost := ?_)
                  unfold withEventF
                  simp only [*, if_true, if_false]
                  rfl
                · -- else_t37
                  refine JC.rs ?_
                  refine Seq.p rfl Ev.eq ?_
                  refine Seq.p rfl Ev.assign ?_
                  refine Seq.nil ?_
                  first | refine JC.c (ht := fun c42 => ?_) (hf := fun c42 => ?_) | refine JC.cb (ht := fun c42 => ?_) (hf := fun c42 => ?_)
                  · -- then_t42
                    refine JC.reg ?_
                    refine Seq.p rfl Ev.move ?_
                    refine Seq.p rfl (Ev.convW it.uint64 it.int) ?_
                    refine Seq.p rfl (Ev.faB fd.api_Event_7) ?_
                    refine Seq.storeN [_, _, _, _, _, _, _, _, _, _, _, _, _] sz.int (k := ?_)
                    refine Seq.nil ?_
                    refine JC.rs ?_
                    refine Seq.p rfl (Ev.ldBA ag.api_Event) ?_
                    refine Seq.storeN [_, _, _, _, _, _, _, _, _, _, _, _, _] sz.api_Event (k := ?_)
                    refine Seq.nil ?_
                    refine JC.ret ?_
                    -- return 8
                    show retQ _ _ _ _ _ _ _ _
                    refine retB1 ag.api_Event (hp := Part.nil _) (hpost := ?_)
                    unfold withEventF
                    simp only [*, if_true, if_false]
                    rfl
                  · -- else_t42
                    refine JC.rs ?_
                    refine Seq.p rfl Ev.eq ?_
                    refine Seq.p rfl Ev.assign ?_
                    refine Seq.nil ?_
                    first | refine JC.c (ht := fun c47 => ?_) (hf := fun c47 => ?_) | refine JC.cb (ht := fun c47 => ?_) (hf := fun c47 => ?_)
                    · -- then_t47
                      refine JC.reg ?_
                      refine Seq.p rfl Ev.move ?_
                      refine Seq.p rfl (Ev.convW it.uint64 it.int) ?_
                      refine Seq.p rfl (Ev.faB fd.api_Event_8) ?_
                      refine Seq.storeN [_, _, _, _, _, _, _, _, _, _, _, _, _] sz.int (k := ?_)
                      refine Seq.nil ?_
                      refine JC.rs ?_
                      refine Seq.p rfl (Ev.ldBA ag.api_Event) ?_
                      refine Seq.storeN [_, _, _, _, _, _, _, _, _, _, _, _, _] sz.api_Event (k := ?_)
                      refine Seq.nil ?_
                      refine JC.ret ?_
                      -- return 9
                      show retQ _ _ _ _ _ _ _ _
                      refine retB1 ag.api_Event (hp := Part.nil _) (hpost := ?_)
                      unfold withEventF
                      simp only [*, if_true, if_false]
                      rfl
                    · -- else_t47
                      refine JC.rs ?_
                      refine Seq.p rfl Ev.eq ?_
                      refine Seq.p rfl Ev.assign ?_
                      refine Seq.nil ?_
                      first | refine JC.c (ht := fun c52 => ?_) (hf := fun c52 => ?_) | refine JC.cb (ht := fun c52 => ?_) (hf := fun c52 => ?_)
                      · -- then_t52
                        refine JC.reg ?_
                        refine Seq.p rfl Ev.move ?_
                        refine Seq.p rfl (Ev.convW it.uint64 it.int) ?_
                        refine Seq.p rfl (Ev.faB fd.api_Event_11) ?_
                        refine Seq.storeN [_, _, _, _, _, _, _, _, _, _, _, _, _] sz.int (k := ?_)
                        refine Seq.nil ?_
                        refine JC.rs ?_
                        refine Seq.p rfl (Ev.ldBA ag.api_Event) ?_
                        refine Seq.storeN [_, _, _, _, _, _, _, _, _, _, _, _, _] sz.api_Event (k := ?_)
                        refine Seq.nil ?_
                        refine JC.ret ?_
                        -- return 10
                        show retQ _ _ _ _ _ _ _ _
                        refine retB1 ag.api_Event (hp := Part.nil _) (hpost := ?_)
                        unfold withEventF
                        simp only [*, if_true, if_false]
                        rfl
                      · -- else_t52
                        refine JC.rs ?_
                        refine Seq.p rfl Ev.eq ?_
                        refine Seq.p rfl Ev.assign ?_
                        refine Seq.nil ?_
                        first | refine JC.c (ht := fun c57 => ?_) (hf := fun c57 => ?_) | refine JC.cb (ht := fun c57 => ?_) (hf := fun c57 => ?_)
                        · -- then_t57
                          refine JC.reg ?_
                          refine Seq.p rfl Ev.move ?_
                          refine Seq.p rfl (Ev.convW it.uint64 it.api_Errno) ?_
                          refine Seq.p rfl (Ev.faB fd.api_Event_12) ?_
                          refine Seq.storeN [_, _, _, _, _, _, _, _, _, _, _, _, _] sz.api_Errno (k := ?_)
                          refine Seq.nil ?_
                          refine JC.rs ?_
                          refine Seq.p rfl (Ev.ldBA ag.api_Event) ?_
                          refine Seq.storeN [_, _, _, _, _, _, _, _, _, _, _, _, _] sz.api_Event (k := ?_)
                          refine Seq.nil ?_
                          refine JC.ret ?_
                          -- return 11
                          show retQ _ _ _ _ _ _ _ _
                          refine retB1 ag.api_Event (hp := Part.nil _) (hpost := ?_)
                          unfold withEventF
                          simp only [*, if_true, if_false]
                          rfl
                        · -- else_t57
                          refine JC.skip ?_
                          refine JC.rs ?_
                          refine Seq.p rfl (Ev.ldBA ag.api_Event) ?_
                          refine Seq.storeN [_, _, _, _, _, _, _, _, _, _, _, _, _] sz.api_Event (k := ?_)
                          refine Seq.nil ?_
                          refine JC.ret ?_
                          -- return 12
                          show retQ _ _ _ _ _ _ _ _
                          refine retB1 ag.api_Event (hp := Part.nil _) (hpost := ?_)
                          unfold withEventF
                          simp only [*, if_true, if_false]
                          rfl
end Go.Rx
namespace Go.Rx
open Go Go.RowKit
set_option linter.unusedVariables false
set_option linter.unusedSimpArgs false
def evFields1 (e : Event) : List Fld := [wholeF 34 e.seq, wholeF 11 e.id, wholeF 1 (e.member % 18446744073709551616), upToF 54 e.side 255, upToF 40 e.type 255, upToF 44 e.price 4294967295, wholeF 38 e.qty, wholeF 210 e.peak]
def evFields2 (e : Event) : List Fld := [wholeF 34 e.seq, wholeF 11 e.id, wholeF 41 e.target, upToF 103 e.code 4294967295]
def evFields3 (e : Event) : List Fld := [wholeF 34 e.seq, wholeF 11 e.id, wholeF 37 e.other, upToF 54 e.side 255, upToF 44 e.price 4294967295, wholeF 38 e.qty]
def evFields4 (e : Event) : List Fld := [wholeF 34 e.seq, wholeF 11 e.id, wholeF 38 e.qty, upToF 378 e.reason 255]
def evFields5 (e : Event) : List Fld := [wholeF 34 e.seq, wholeF 11 e.id, upToF 44 e.price 4294967295, wholeF 38 e.qty]
def evFieldsF (e : Event) : Option (List Fld) :=
  if e.kind = 1 then some (evFields1 e) else if e.kind = 2 then some (evFields2 e) else if e.kind = 3 then some (evFields3 e) else if e.kind = 4 then some (evFields4 e) else if e.kind = 5 then some (evFields5 e) else none
def EvPost (o : Option (List Fld)) (u : Value) (N : List Chunk) : Prop :=
  match o with
  | none => u = .tuple #[.slice none 0 0, .bool false]
  | some fs => ∃ A c, u = .tuple #[.slice A fs.length c, .bool true] ∧ N = [.own 92 3 (.slice A fs.length c) fs.length (fs.flatMap Fld.enc)]
set_option maxHeartbeats 4000000 in
set_option maxRecDepth 100000 in
theorem msgEventFields {w : World} {e : Event} : Spec Go.Proofs.Tryd.prog 53 #[.agg e.enc.toArray] w [] (EvPost (evFieldsF e)) := by
  refine Spec.enter (fn := Go.Proofs.Tryd.f53) (n := 100) [.agg e.enc.toArray] Go.Proofs.Tryd.func53 (by kernel_rfl) rfl Go.Proofs.Tryd.ntmps53 Go.Proofs.Tryd.results53 rfl (Own.nil _) ?_
  refine JC.rs ?_
  refine Seq.box (cs := [_, _, _, _, _, _, _, _, _, _, _, _, _]) (k := ?_); intro b1
  refine Seq.p rfl Ev.assign ?_
  refine Seq.p rfl Ev.assign ?_
  refine Seq.nil ?_
  refine JC.rs ?_
  refine Seq.p rfl (Ev.faB fd.api_Event_0) ?_
  refine Seq.p rfl (Ev.ldB sc.uint64) ?_
  refine Seq.callP rfl (fun w hw => msgWhole) ?_
  refine Seq.buildSlN [_, _, _] (hsl := sl.sl_message_field) (hz := z.message_field) (k := ?_); intro b8
  refine Seq.re (fun w h => Upd.boxOwn h (n := 1) (size := 3) At.z rfl (by omega)) ?_
  refine Seq.p rfl Ev.assign ?_
  refine Seq.nil ?_
  refine JC.seq ?_
  refine JC.rs ?_
  refine Seq.p rfl (Ev.faB fd.api_Event_1) ?_
  refine Seq.p rfl (Ev.ldB sc.int) ?_
  refine Seq.nil ?_
  refine JC.blk ?_
  refine JC.rs ?_
  refine Seq.p rfl Ev.eq ?_
  refine Seq.p rfl Ev.assign ?_
  refine Seq.nil ?_
  first | refine JC.c (ht := fun c11 => ?_) (hf := fun c11 => ?_) | refine JC.cb (ht := fun c11 => ?_) (hf := fun c11 => ?_)
  · -- then_t11
    refine JC.asE 0 mixed ?_
    refine Any.p 0 rfl (by kernel_rfl) (by kernel_rfl) (by kernel_rfl) rfl Ev.move ?_
    refine Any.p 1 rfl (by kernel_rfl) (by kernel_rfl) (by kernel_rfl) rfl (Ev.faB fd.api_Event_2) ?_
    refine Any.p 2 rfl (by kernel_rfl) (by kernel_rfl) (by kernel_rfl) rfl (Ev.ldB sc.uint64) ?_
    refine Any.call 3 rfl (by kernel_rfl) (by kernel_rfl) (by kernel_rfl) rfl (fun w hw => msgWhole) ?_
    refine Any.p 4 rfl (by kernel_rfl) (by kernel_rfl) (by kernel_rfl) rfl (Ev.faB fd.api_Event_5) ?_
    refine Any.p 5 rfl (by kernel_rfl) (by kernel_rfl) (by kernel_rfl) rfl (Ev.ldB sc.uint32) ?_
    refine Any.p 6 rfl (by kernel_rfl) (by kernel_rfl) (by kernel_rfl) rfl (Ev.convU64W it.uint32 it.uint64) ?_
    refine Any.call 7 rfl (by kernel_rfl) (by kernel_rfl) (by kernel_rfl) rfl (fun w hw => msgWhole) ?_
    refine Any.p 8 rfl (by kernel_rfl) (by kernel_rfl) (by kernel_rfl) rfl (Ev.faB fd.api_Event_6) ?_
    refine Any.p 9 rfl (by kernel_rfl) (by kernel_rfl) (by kernel_rfl) rfl (Ev.ldB sc.int) ?_
    refine Any.call 10 rfl (by kernel_rfl) (by kernel_rfl) (by kernel_rfl) rfl (fun w hw => msgUpTo) ?_
    refine Any.p 11 rfl (by kernel_rfl) (by kernel_rfl) (by kernel_rfl) rfl (Ev.faB fd.api_Event_7) ?_
    refine Any.p 12 rfl (by kernel_rfl) (by kernel_rfl) (by kernel_rfl) rfl (Ev.ldB sc.int) ?_
    refine Any.call 13 rfl (by kernel_rfl) (by kernel_rfl) (by kernel_rfl) rfl (fun w hw => msgUpTo) ?_
    refine Any.p 14 rfl (by kernel_rfl) (by kernel_rfl) (by kernel_rfl) rfl (Ev.faB fd.api_Event_8) ?_
    refine Any.p 15 rfl (by kernel_rfl) (by kernel_rfl) (by kernel_rfl) rfl (Ev.ldB sc.int) ?_
    refine Any.call 16 rfl (by kernel_rfl) (by kernel_rfl) (by kernel_rfl) rfl (fun w hw => msgUpTo) ?_
    refine Any.p 17 rfl (by kernel_rfl) (by kernel_rfl) (by kernel_rfl) rfl (Ev.faB fd.api_Event_9) ?_
    refine Any.p 18 rfl (by kernel_rfl) (by kernel_rfl) (by kernel_rfl) rfl (Ev.ldB sc.uint64) ?_
    refine Any.call 19 rfl (by kernel_rfl) (by kernel_rfl) (by kernel_rfl) rfl (fun w hw => msgWhole) ?_
    refine Any.p 20 rfl (by kernel_rfl) (by kernel_rfl) (by kernel_rfl) rfl (Ev.faB fd.api_Event_10) ?_
    refine Any.p 21 rfl (by kernel_rfl) (by kernel_rfl) (by kernel_rfl) rfl (Ev.ldB sc.uint64) ?_
    refine Any.call 22 rfl (by kernel_rfl) (by kernel_rfl) (by kernel_rfl) rfl (fun w hw => msgWhole) ?_
    refine Any.one 23 rfl (by kernel_rfl) ?_
    refine Seq.buildSlS [_, _, _, _, _, _, _, _, _, _, _, _, _, _, _, _, _, _, _, _, _] (hsl := sl.sl_message_field) (hz := z.message_field) (k := ?_); intro b36
    refine Seq.nil ⟨(by repeat (first | exact Part.refl _ | exact Part.nil _ | apply Part.here | apply Part.skip)), ?_⟩
    refine Any.one 24 rfl (by kernel_rfl) ?_
    refine Seq.append (hsl := sl.sl_message_field) (he := el.message_field) (hsrc := (fun w' hw => Src.box (hl := by rfl) (hc := fun q u hu => hu) sl.sl_message_field At.z hw)) (k := ?_); intro A37 c37
    refine Seq.nil ⟨(by repeat (first | exact Part.refl _ | exact Part.nil _ | apply Part.here | apply Part.skip)), ?_⟩
    refine Any.p 25 rfl (by kernel_rfl) (by kernel_rfl) (by kernel_rfl) rfl Ev.assign ?_
    refine Any.p 26 rfl (by kernel_rfl) (by kernel_rfl) (by kernel_rfl) rfl Ev.assign ?_
    refine Any.done (by kernel_rfl) ?_
    refine JC.ret ?_
    -- return 0
    show retQ _ _ _ _ _ _ _ _
    refine ret2 (hp := Part.skip (Part.here (Part.nil _))) (hpost := ?_)
    have hF : evFieldsF e = some (evFields1 e) := by rw [evFieldsF, if_pos c11]
    rw [hF]
    exact ⟨_, _, rfl, rfl⟩
  · -- else_t11
    refine JC.rs ?_
    refine Seq.p rfl Ev.eq ?_
    refine Seq.p rfl Ev.assign ?_
    refine Seq.nil ?_
    first | refine JC.c (ht := fun c38 => ?_) (hf := fun c38 => ?_) | refine JC.cb (ht := fun c38 => ?_) (hf := fun c38 => ?_)
    · -- then_t38
      refine JC.asE 0 mixed ?_
      refine Any.p 0 rfl (by kernel_rfl) (by kernel_rfl) (by kernel_rfl) rfl Ev.move ?_
      refine Any.p 1 rfl (by kernel_rfl) (by kernel_rfl) (by kernel_rfl) rfl (Ev.faB fd.api_Event_2) ?_
      refine Any.p 2 rfl (by kernel_rfl) (by kernel_rfl) (by kernel_rfl) rfl (Ev.ldB sc.uint64) ?_
      refine Any.call 3 rfl (by kernel_rfl) (by kernel_rfl) (by kernel_rfl) rfl (fun w hw => msgWhole) ?_
      refine Any.p 4 rfl (by kernel_rfl) (by kernel_rfl) (by kernel_rfl) rfl (Ev.faB fd.api_Event_4) ?_
      refine Any.p 5 rfl (by kernel_rfl) (by kernel_rfl) (by kernel_rfl) rfl (Ev.ldB sc.uint64) ?_
      refine Any.call 6 rfl (by kernel_rfl) (by kernel_rfl) (by kernel_rfl) rfl (fun w hw => msgWhole) ?_
      refine Any.p 7 rfl (by kernel_rfl) (by kernel_rfl) (by kernel_rfl) rfl (Ev.faB fd.api_Event_12) ?_
      refine Any.p 8 rfl (by kernel_rfl) (by kernel_rfl) (by kernel_rfl) rfl (Ev.ldB sc.api_Errno) ?_
      refine Any.call 9 rfl (by kernel_rfl) (by kernel_rfl) (by kernel_rfl) rfl (fun w hw => msgUpTo) ?_
      refine Any.one 10 rfl (by kernel_rfl) ?_
      refine Seq.buildSlN [_, _, _, _, _, _, _, _, _] (hsl := sl.sl_message_field) (hz := z.message_field) (k := ?_); intro b50
      refine Seq.nil ⟨(by repeat (first | exact Part.refl _ | exact Part.nil _ | apply Part.here | apply Part.skip)), ?_⟩
      refine Any.one 11 rfl (by kernel_rfl) ?_
      refine Seq.append (hsl := sl.sl_message_field) (he := el.message_field) (hsrc := (fun w' hw => Src.box (hl := by rfl) (hc := fun q u hu => hu) sl.sl_message_field At.z hw)) (k := ?_); intro A51 c51
      refine Seq.nil ⟨(by repeat (first | exact Part.refl _ | exact Part.nil _ | apply Part.here | apply Part.skip)), ?_⟩
      refine Any.p 12 rfl (by kernel_rfl) (by kernel_rfl) (by kernel_rfl) rfl Ev.assign ?_
      refine Any.p 13 rfl (by kernel_rfl) (by kernel_rfl) (by kernel_rfl) rfl Ev.assign ?_
      refine Any.done (by kernel_rfl) ?_
      refine JC.ret ?_
      -- return 1
      show retQ _ _ _ _ _ _ _ _
      refine ret2 (hp := Part.skip (Part.here (Part.nil _))) (hpost := ?_)
      have hF : evFieldsF e = some (evFields2 e) := by rw [evFieldsF, if_neg c11, if_pos c38]
      rw [hF]
      exact ⟨_, _, rfl, rfl⟩
    · -- else_t38
      refine JC.rs ?_
      refine Seq.p rfl Ev.eq ?_
      refine Seq.p rfl Ev.assign ?_
      refine Seq.nil ?_
      first | refine JC.c (ht := fun c52 => ?_) (hf := fun c52 => ?_) | refine JC.cb (ht := fun c52 => ?_) (hf := fun c52 => ?_)
      · -- then_t52
        refine JC.asE 0 mixed ?_
        refine Any.p 0 rfl (by kernel_rfl) (by kernel_rfl) (by kernel_rfl) rfl Ev.move ?_
        refine Any.p 1 rfl (by kernel_rfl) (by kernel_rfl) (by kernel_rfl) rfl (Ev.faB fd.api_Event_2) ?_
        refine Any.p 2 rfl (by kernel_rfl) (by kernel_rfl) (by kernel_rfl) rfl (Ev.ldB sc.uint64) ?_
        refine Any.call 3 rfl (by kernel_rfl) (by kernel_rfl) (by kernel_rfl) rfl (fun w hw => msgWhole) ?_
        refine Any.p 4 rfl (by kernel_rfl) (by kernel_rfl) (by kernel_rfl) rfl (Ev.faB fd.api_Event_3) ?_
        refine Any.p 5 rfl (by kernel_rfl) (by kernel_rfl) (by kernel_rfl) rfl (Ev.ldB sc.uint64) ?_
        refine Any.call 6 rfl (by kernel_rfl) (by kernel_rfl) (by kernel_rfl) rfl (fun w hw => msgWhole) ?_
        refine Any.p 7 rfl (by kernel_rfl) (by kernel_rfl) (by kernel_rfl) rfl (Ev.faB fd.api_Event_6) ?_
        refine Any.p 8 rfl (by kernel_rfl) (by kernel_rfl) (by kernel_rfl) rfl (Ev.ldB sc.int) ?_
        refine Any.call 9 rfl (by kernel_rfl) (by kernel_rfl) (by kernel_rfl) rfl (fun w hw => msgUpTo) ?_
        refine Any.p 10 rfl (by kernel_rfl) (by kernel_rfl) (by kernel_rfl) rfl (Ev.faB fd.api_Event_8) ?_
        refine Any.p 11 rfl (by kernel_rfl) (by kernel_rfl) (by kernel_rfl) rfl (Ev.ldB sc.int) ?_
        refine Any.call 12 rfl (by kernel_rfl) (by kernel_rfl) (by kernel_rfl) rfl (fun w hw => msgUpTo) ?_
        refine Any.p 13 rfl (by kernel_rfl) (by kernel_rfl) (by kernel_rfl) rfl (Ev.faB fd.api_Event_9) ?_
        refine Any.p 14 rfl (by kernel_rfl) (by kernel_rfl) (by kernel_rfl) rfl (Ev.ldB sc.uint64) ?_
        refine Any.call 15 rfl (by kernel_rfl) (by kernel_rfl) (by kernel_rfl) rfl (fun w hw => msgWhole) ?_
        refine Any.one 16 rfl (by kernel_rfl) ?_
        refine Seq.buildSlS [_, _, _, _, _, _, _, _, _, _, _, _, _, _, _] (hsl := sl.sl_message_field) (hz := z.message_field) (k := ?_); intro b70
        refine Seq.nil ⟨(by repeat (first | exact Part.refl _ | exact Part.nil _ | apply Part.here | apply Part.skip)), ?_⟩
        refine Any.one 17 rfl (by kernel_rfl) ?_
        refine Seq.append (hsl := sl.sl_message_field) (he := el.message_field) (hsrc := (fun w' hw => Src.box (hl := by rfl) (hc := fun q u hu => hu) sl.sl_message_field At.z hw)) (k := ?_); intro A71 c71
        refine Seq.nil ⟨(by repeat (first | exact Part.refl _ | exact Part.nil _ | apply Part.here | apply Part.skip)), ?_⟩
        refine Any.p 18 rfl (by kernel_rfl) (by kernel_rfl) (by kernel_rfl) rfl Ev.assign ?_
        refine Any.p 19 rfl (by kernel_rfl) (by kernel_rfl) (by kernel_rfl) rfl Ev.assign ?_
        refine Any.done (by kernel_rfl) ?_
        refine JC.ret ?_
        -- return 2
        show retQ _ _ _ _ _ _ _ _
        refine ret2 (hp := Part.skip (Part.here (Part.nil _))) (hpost := ?_)
        have hF : evFieldsF e = some (evFields3 e) := by rw [evFieldsF, if_neg c11, if_neg c38, if_pos c52]
        rw [hF]
        exact ⟨_, _, rfl, rfl⟩
      · -- else_t52
        refine JC.rs ?_
        refine Seq.p rfl Ev.eq ?_
        refine Seq.p rfl Ev.assign ?_
        refine Seq.nil ?_
        first | refine JC.c (ht := fun c72 => ?_) (hf := fun c72 => ?_) | refine JC.cb (ht := fun c72 => ?_) (hf := fun c72 => ?_)
        · -- then_t72
          refine JC.asE 0 mixed ?_
          refine Any.p 0 rfl (by kernel_rfl) (by kernel_rfl) (by kernel_rfl) rfl Ev.move ?_
          refine Any.p 1 rfl (by kernel_rfl) (by kernel_rfl) (by kernel_rfl) rfl (Ev.faB fd.api_Event_2) ?_
          refine Any.p 2 rfl (by kernel_rfl) (by kernel_rfl) (by kernel_rfl) rfl (Ev.ldB sc.uint64) ?_
          refine Any.call 3 rfl (by kernel_rfl) (by kernel_rfl) (by kernel_rfl) rfl (fun w hw => msgWhole) ?_
          refine Any.p 4 rfl (by kernel_rfl) (by kernel_rfl) (by kernel_rfl) rfl (Ev.faB fd.api_Event_9) ?_
          refine Any.p 5 rfl (by kernel_rfl) (by kernel_rfl) (by kernel_rfl) rfl (Ev.ldB sc.uint64) ?_
          refine Any.call 6 rfl (by kernel_rfl) (by kernel_rfl) (by kernel_rfl) rfl (fun w hw => msgWhole) ?_
          refine Any.p 7 rfl (by kernel_rfl) (by kernel_rfl) (by kernel_rfl) rfl (Ev.faB fd.api_Event_11) ?_
          refine Any.p 8 rfl (by kernel_rfl) (by kernel_rfl) (by kernel_rfl) rfl (Ev.ldB sc.int) ?_
          refine Any.call 9 rfl (by kernel_rfl) (by kernel_rfl) (by kernel_rfl) rfl (fun w hw => msgUpTo) ?_
          refine Any.one 10 rfl (by kernel_rfl) ?_
          refine Seq.buildSlN [_, _, _, _, _, _, _, _, _] (hsl := sl.sl_message_field) (hz := z.message_field) (k := ?_); intro b84
          refine Seq.nil ⟨(by repeat (first | exact Part.refl _ | exact Part.nil _ | apply Part.here | apply Part.skip)), ?_⟩
          refine Any.one 11 rfl (by kernel_rfl) ?_
          refine Seq.append (hsl := sl.sl_message_field) (he := el.message_field) (hsrc := (fun w' hw => Src.box (hl := by rfl) (hc := fun q u hu => hu) sl.sl_message_field At.z hw)) (k := ?_); intro A85 c85
          refine Seq.nil ⟨(by repeat (first | exact Part.refl _ | exact Part.nil _ | apply Part.here | apply Part.skip)), ?_⟩
          refine Any.p 12 rfl (by kernel_rfl) (by kernel_rfl) (by kernel_rfl) rfl Ev.assign ?_
          refine Any.p 13 rfl (by kernel_rfl) (by kernel_rfl) (by kernel_rfl) rfl Ev.assign ?_
          refine Any.done (by kernel_rfl) ?_
          refine JC.ret ?_
          -- return 3
          show retQ _ _ _ _ _ _ _ _
          refine ret2 (hp := Part.skip (Part.here (Part.nil _))) (hpost := ?_)
          have hF : evFieldsF e = some (evFields4 e) := by rw [evFieldsF, if_neg c11, if_neg c38, if_neg c52, if_pos c72]
          rw [hF]
          exact ⟨_, _, rfl, rfl⟩
        · -- else_t72
          refine JC.rs ?_
          refine Seq.p rfl Ev.eq ?_
          refine Seq.p rfl Ev.assign ?_
          refine Seq.nil ?_
          first | refine JC.c (ht := fun c86 => ?_) (hf := fun c86 => ?_) | refine JC.cb (ht := fun c86 => ?_) (hf := fun c86 => ?_)
          · -- then_t86
            refine JC.asE 0 mixed ?_
            refine Any.p 0 rfl (by kernel_rfl) (by kernel_rfl) (by kernel_rfl) rfl Ev.move ?_
            refine Any.p 1 rfl (by kernel_rfl) (by kernel_rfl) (by kernel_rfl) rfl (Ev.faB fd.api_Event_2) ?_
            refine Any.p 2 rfl (by kernel_rfl) (by kernel_rfl) (by kernel_rfl) rfl (Ev.ldB sc.uint64) ?_
            refine Any.call 3 rfl (by kernel_rfl) (by kernel_rfl) (by kernel_rfl) rfl (fun w hw => msgWhole) ?_
            refine Any.p 4 rfl (by kernel_rfl) (by kernel_rfl) (by kernel_rfl) rfl (Ev.faB fd.api_Event_8) ?_
            refine Any.p 5 rfl (by kernel_rfl) (by kernel_rfl) (by kernel_rfl) rfl (Ev.ldB sc.int) ?_
            refine Any.call 6 rfl (by kernel_rfl) (by kernel_rfl) (by kernel_rfl) rfl (fun w hw => msgUpTo) ?_
            refine Any.p 7 rfl (by kernel_rfl) (by kernel_rfl) (by kernel_rfl) rfl (Ev.faB fd.api_Event_9) ?_
            refine Any.p 8 rfl (by kernel_rfl) (by kernel_rfl) (by kernel_rfl) rfl (Ev.ldB sc.uint64) ?_
            refine Any.call 9 rfl (by kernel_rfl) (by kernel_rfl) (by kernel_rfl) rfl (fun w hw => msgWhole) ?_
            refine Any.one 10 rfl (by kernel_rfl) ?_
            refine Seq.buildSlN [_, _, _, _, _, _, _, _, _] (hsl := sl.sl_message_field) (hz := z.message_field) (k := ?_); intro b98
            refine Seq.nil ⟨(by repeat (first | exact Part.refl _ | exact Part.nil _ | apply Part.here | apply Part.skip)), ?_⟩
            refine Any.one 11 rfl (by kernel_rfl) ?_
            refine Seq.append (hsl := sl.sl_message_field) (he := el.message_field) (hsrc := (fun w' hw => Src.box (hl := by rfl) (hc := fun q u hu => hu) sl.sl_message_field At.z hw)) (k := ?_); intro A99 c99
            refine Seq.nil ⟨(by repeat (first | exact Part.refl _ | exact Part.nil _ | apply Part.here | apply Part.skip)), ?_⟩
            refine Any.p 12 rfl (by kernel_rfl) (by kernel_rfl) (by kernel_rfl) rfl Ev.assign ?_
            refine Any.p 13 rfl (by kernel_rfl) (by kernel_rfl) (by kernel_rfl) rfl Ev.assign ?_
            refine Any.done (by kernel_rfl) ?_
            refine JC.ret ?_
            -- return 4
            show retQ _ _ _ _ _ _ _ _
            refine ret2 (hp := Part.skip (Part.here (Part.nil _))) (hpost := ?_)
            have hF : evFieldsF e = some (evFields5 e) := by rw [evFieldsF, if_neg c11, if_neg c38, if_neg c52, if_neg c72, if_pos c86]
            rw [hF]
            exact ⟨_, _, rfl, rfl⟩
          · -- else_t86
            refine JC.skip ?_
            refine JC.rs ?_
            refine Seq.p rfl Ev.assign ?_
            refine Seq.p rfl Ev.assign ?_
            refine Seq.nil ?_
            refine JC.ret ?_
            -- return 5
            show retQ _ _ _ _ _ _ _ _
            refine ret2 (hp := Part.nil _) (hpost := ?_)
            have hF : evFieldsF e = none := by rw [evFieldsF, if_neg c11, if_neg c38, if_neg c52, if_neg c72, if_neg c86]
            rw [hF]
            rfl
def toldRF (k : Int) : List RF :=
  if k = 1 then [⟨34, 0, 0, 0⟩, ⟨11, 0, 1, 0⟩, ⟨1, 4294967295, 3, 0⟩, ⟨54, 255, 3, 32⟩, ⟨40, 255, 3, 40⟩, ⟨44, 4294967295, 4, 0⟩, ⟨38, 0, 5, 0⟩, ⟨210, 0, 6, 0⟩]
  else if k = 2 then [⟨34, 0, 0, 0⟩, ⟨11, 0, 1, 0⟩, ⟨41, 0, 2, 0⟩, ⟨103, 4294967295, 4, 32⟩]
  else if k = 3 then [⟨34, 0, 0, 0⟩, ⟨11, 0, 1, 0⟩, ⟨37, 0, 2, 0⟩, ⟨54, 255, 3, 32⟩, ⟨44, 4294967295, 4, 0⟩, ⟨38, 0, 5, 0⟩]
  else if k = 4 then [⟨34, 0, 0, 0⟩, ⟨11, 0, 1, 0⟩, ⟨38, 0, 5, 0⟩, ⟨378, 255, 3, 48⟩]
  else if k = 5 then [⟨34, 0, 0, 0⟩, ⟨11, 0, 1, 0⟩, ⟨44, 4294967295, 4, 0⟩, ⟨38, 0, 5, 0⟩]
  else []
set_option maxHeartbeats 4000000 in
set_option maxRecDepth 100000 in
theorem refTold {w : World} {k : Int} (hk : 1 ≤ k ∧ k ≤ 5) : Spec Go.Proofs.Tryd.prog 30 #[.int .i64 k] w [] (RowPost (toldRF k)) := by
  refine Spec.enter (fn := Go.Proofs.Tryd.f30) (n := 55) [.int .i64 k] Go.Proofs.Tryd.func30 (by kernel_rfl) rfl Go.Proofs.Tryd.ntmps30 Go.Proofs.Tryd.results30 rfl (Own.nil _) ?_
  refine JC.rs ?_
  refine Seq.p rfl Ev.assign ?_
  refine Seq.nil ?_
  refine JC.rs ?_
  refine Seq.p rfl (Ev.buildN [_, _, _, _] pl.bourseref04_field z.bourseref04_field) ?_
  refine Seq.p rfl (Ev.buildN [_, _, _, _] pl.bourseref04_field z.bourseref04_field) ?_
  refine Seq.alloc (cs := [_, _, _, _]) (hz := z.bourseref04_field) (k := ?_); intro b3
  refine Seq.alloc (cs := [_, _, _, _]) (hz := z.bourseref04_field) (k := ?_); intro b4
  refine Seq.storeN [_, _, _, _] sz.bourseref04_field (k := ?_)
  refine Seq.storeN [_, _, _, _] sz.bourseref04_field (k := ?_)
  refine Seq.nil ?_
  refine JC.rs ?_
  refine Seq.p rfl (Ev.buildN [_, _, _, _] pl.bourseref04_field z.bourseref04_field) ?_
  refine Seq.p rfl (Ev.buildN [_, _, _, _] pl.bourseref04_field z.bourseref04_field) ?_
  refine Seq.p rfl (Ev.buildN [_, _, _, _] pl.bourseref04_field z.bourseref04_field) ?_
  refine Seq.alloc (cs := [_, _, _, _]) (hz := z.bourseref04_field) (k := ?_); intro b5
  refine Seq.alloc (cs := [_, _, _, _]) (hz := z.bourseref04_field) (k := ?_); intro b6
  refine Seq.alloc (cs := [_, _, _, _]) (hz := z.bourseref04_field) (k := ?_); intro b7
  refine Seq.storeN [_, _, _, _] sz.bourseref04_field (k := ?_)
  refine Seq.storeN [_, _, _, _] sz.bourseref04_field (k := ?_)
  refine Seq.storeN [_, _, _, _] sz.bourseref04_field (k := ?_)
  refine Seq.nil ?_
  refine JC.seq ?_
  refine JC.rs ?_
  refine Seq.p rfl Ev.move ?_
  refine Seq.nil ?_
  refine JC.blk ?_
  refine JC.rs ?_
  refine Seq.p rfl Ev.eq ?_
  refine Seq.p rfl Ev.assign ?_
  refine Seq.nil ?_
  first | refine JC.c (ht := fun c14 => ?_) (hf := fun c14 => ?_) | refine JC.cb (ht := fun c14 => ?_) (hf := fun c14 => ?_)
  · -- then_t14
    refine JC.rs ?_
    refine Seq.p rfl (Ev.ldBA ag.bourseref04_field) ?_
    refine Seq.p rfl (Ev.ldBA ag.bourseref04_field) ?_
    refine Seq.p rfl (Ev.buildN [_, _, _, _] pl.bourseref04_field z.bourseref04_field) ?_
    refine Seq.p rfl (Ev.ldBA ag.bourseref04_field) ?_
    refine Seq.p rfl (Ev.buildN [_, _, _, _] pl.bourseref04_field z.bourseref04_field) ?_
    refine Seq.p rfl (Ev.ldBA ag.bourseref04_field) ?_
    refine Seq.p rfl (Ev.ldBA ag.bourseref04_field) ?_
    refine Seq.p rfl (Ev.buildN [_, _, _, _] pl.bourseref04_field z.bourseref04_field) ?_
    refine Seq.buildSlS [_, _, _, _, _, _, _, _, _, _, _, _, _, _, _, _, _, _, _, _, _, _, _, _, _, _, _, _, _, _, _, _] (hsl := sl.sl_bourseref04_field) (hz := z.bourseref04_field) (k := ?_); intro b24
    refine Seq.p rfl Ev.assign ?_
    refine Seq.nil ?_
    refine JC.ret ?_
    -- return 0
    show retQ _ _ _ _ _ _ _ _
    refine ret1 (hp := Part.here (Part.nil _)) (hpost := ?_)
    rw [toldRF, if_pos c14]
    exact ⟨_, rfl, rfl⟩
  · -- else_t14
    refine JC.rs ?_
    refine Seq.p rfl Ev.eq ?_
    refine Seq.p rfl Ev.assign ?_
    refine Seq.nil ?_
    first | refine JC.c (ht := fun c25 => ?_) (hf := fun c25 => ?_) | refine JC.cb (ht := fun c25 => ?_) (hf := fun c25 => ?_)
    · -- then_t25
      refine JC.rs ?_
      refine Seq.p rfl (Ev.ldBA ag.bourseref04_field) ?_
      refine Seq.p rfl (Ev.ldBA ag.bourseref04_field) ?_
      refine Seq.p rfl (Ev.buildN [_, _, _, _] pl.bourseref04_field z.bourseref04_field) ?_
      refine Seq.p rfl (Ev.buildN [_, _, _, _] pl.bourseref04_field z.bourseref04_field) ?_
      refine Seq.buildSlN [_, _, _, _, _, _, _, _, _, _, _, _, _, _, _, _] (hsl := sl.sl_bourseref04_field) (hz := z.bourseref04_field) (k := ?_); intro b31
      refine Seq.p rfl Ev.assign ?_
      refine Seq.nil ?_
      refine JC.ret ?_
      -- return 1
      show retQ _ _ _ _ _ _ _ _
      refine ret1 (hp := Part.here (Part.nil _)) (hpost := ?_)
      rw [toldRF, if_neg c14, if_pos c25]
      exact ⟨_, rfl, rfl⟩
    · -- else_t25
      refine JC.rs ?_
      refine Seq.p rfl Ev.eq ?_
      refine Seq.p rfl Ev.assign ?_
      refine Seq.nil ?_
      first | refine JC.c (ht := fun c32 => ?_) (hf := fun c32 => ?_) | refine JC.cb (ht := fun c32 => ?_) (hf := fun c32 => ?_)
      · -- then_t32
        refine JC.rs ?_
        refine Seq.p rfl (Ev.ldBA ag.bourseref04_field) ?_
        refine Seq.p rfl (Ev.ldBA ag.bourseref04_field) ?_
        refine Seq.p rfl (Ev.buildN [_, _, _, _] pl.bourseref04_field z.bourseref04_field) ?_
        refine Seq.p rfl (Ev.ldBA ag.bourseref04_field) ?_
        refine Seq.p rfl (Ev.ldBA ag.bourseref04_field) ?_
        refine Seq.p rfl (Ev.ldBA ag.bourseref04_field) ?_
        refine Seq.buildSlS [_, _, _, _, _, _, _, _, _, _, _, _, _, _, _, _, _, _, _, _, _, _, _, _] (hsl := sl.sl_bourseref04_field) (hz := z.bourseref04_field) (k := ?_); intro b40
        refine Seq.p rfl Ev.assign ?_
        refine Seq.nil ?_
        refine JC.ret ?_
        -- return 2
        show retQ _ _ _ _ _ _ _ _
        refine ret1 (hp := Part.here (Part.nil _)) (hpost := ?_)
        rw [toldRF, if_neg c14, if_neg c25, if_pos c32]
        exact ⟨_, rfl, rfl⟩
      · -- else_t32
        refine JC.rs ?_
        refine Seq.p rfl Ev.eq ?_
        refine Seq.p rfl Ev.assign ?_
        refine Seq.nil ?_
        first | refine JC.c (ht := fun c41 => ?_) (hf := fun c41 => ?_) | refine JC.cb (ht := fun c41 => ?_) (hf := fun c41 => ?_)
        · -- then_t41
          refine JC.rs ?_
          refine Seq.p rfl (Ev.ldBA ag.bourseref04_field) ?_
          refine Seq.p rfl (Ev.ldBA ag.bourseref04_field) ?_
          refine Seq.p rfl (Ev.ldBA ag.bourseref04_field) ?_
          refine Seq.p rfl (Ev.buildN [_, _, _, _] pl.bourseref04_field z.bourseref04_field) ?_
          refine Seq.buildSlN [_, _, _, _, _, _, _, _, _, _, _, _, _, _, _, _] (hsl := sl.sl_bourseref04_field) (hz := z.bourseref04_field) (k := ?_); intro b47
          refine Seq.p rfl Ev.assign ?_
          refine Seq.nil ?_
          refine JC.ret ?_
          -- return 3
          show retQ _ _ _ _ _ _ _ _
          refine ret1 (hp := Part.here (Part.nil _)) (hpost := ?_)
          rw [toldRF, if_neg c14, if_neg c25, if_neg c32, if_pos c41]
          exact ⟨_, rfl, rfl⟩
        · -- else_t41
          refine JC.rs ?_
          refine Seq.p rfl Ev.eq ?_
          refine Seq.p rfl Ev.assign ?_
          refine Seq.nil ?_
          first | refine JC.c (ht := fun c48 => ?_) (hf := fun c48 => ?_) | refine JC.cb (ht := fun c48 => ?_) (hf := fun c48 => ?_)
          · -- then_t48
            refine JC.rs ?_
            refine Seq.p rfl (Ev.ldBA ag.bourseref04_field) ?_
            refine Seq.p rfl (Ev.ldBA ag.bourseref04_field) ?_
            refine Seq.p rfl (Ev.ldBA ag.bourseref04_field) ?_
            refine Seq.p rfl (Ev.ldBA ag.bourseref04_field) ?_
            refine Seq.buildSlN [_, _, _, _, _, _, _, _, _, _, _, _, _, _, _, _] (hsl := sl.sl_bourseref04_field) (hz := z.bourseref04_field) (k := ?_); intro b54
            refine Seq.p rfl Ev.assign ?_
            refine Seq.nil ?_
            refine JC.ret ?_
            -- return 4
            show retQ _ _ _ _ _ _ _ _
            refine ret1 (hp := Part.here (Part.nil _)) (hpost := ?_)
            rw [toldRF, if_neg c14, if_neg c25, if_neg c32, if_neg c41, if_pos c48]
            exact ⟨_, rfl, rfl⟩
          · -- else_t48
            exfalso; omega
set_option maxHeartbeats 4000000 in
set_option maxRecDepth 100000 in
theorem refTold0 {w : World} {k : Int} (hk : ¬ (1 ≤ k ∧ k ≤ 5)) : Spec Go.Proofs.Tryd.prog 30 #[.int .i64 k] w [] (fun u _ => u = .slice none 0 0) := by
  refine Spec.enter (fn := Go.Proofs.Tryd.f30) (n := 55) [.int .i64 k] Go.Proofs.Tryd.func30 (by kernel_rfl) rfl Go.Proofs.Tryd.ntmps30 Go.Proofs.Tryd.results30 rfl (Own.nil _) ?_
  refine JC.rs ?_
  refine Seq.p rfl Ev.assign ?_
  refine Seq.nil ?_
  refine JC.rs ?_
  refine Seq.p rfl (Ev.buildN [_, _, _, _] pl.bourseref04_field z.bourseref04_field) ?_
  refine Seq.p rfl (Ev.buildN [_, _, _, _] pl.bourseref04_field z.bourseref04_field) ?_
  refine Seq.alloc (cs := [_, _, _, _]) (hz := z.bourseref04_field) (k := ?_); intro b3
  refine Seq.alloc (cs := [_, _, _, _]) (hz := z.bourseref04_field) (k := ?_); intro b4
  refine Seq.storeN [_, _, _, _] sz.bourseref04_field (k := ?_)
  refine Seq.storeN [_, _, _, _] sz.bourseref04_field (k := ?_)
  refine Seq.nil ?_
  refine JC.rs ?_
  refine Seq.p rfl (Ev.buildN [_, _, _, _] pl.bourseref04_field z.bourseref04_field) ?_
  refine Seq.p rfl (Ev.buildN [_, _, _, _] pl.bourseref04_field z.bourseref04_field) ?_
  refine Seq.p rfl (Ev.buildN [_, _, _, _] pl.bourseref04_field z.bourseref04_field) ?_
  refine Seq.alloc (cs := [_, _, _, _]) (hz := z.bourseref04_field) (k := ?_); intro b5
  refine Seq.alloc (cs := [_, _, _, _]) (hz := z.bourseref04_field) (k := ?_); intro b6
  refine Seq.alloc (cs := [_, _, _, _]) (hz := z.bourseref04_field) (k := ?_); intro b7
  refine Seq.storeN [_, _, _, _] sz.bourseref04_field (k := ?_)
  refine Seq.storeN [_, _, _, _] sz.bourseref04_field (k := ?_)
  refine Seq.storeN [_, _, _, _] sz.bourseref04_field (k := ?_)
  refine Seq.nil ?_
  refine JC.seq ?_
  refine JC.rs ?_
  refine Seq.p rfl Ev.move ?_
  refine Seq.nil ?_
  refine JC.blk ?_
  refine JC.rs ?_
  refine Seq.p rfl Ev.eq ?_
  refine Seq.p rfl Ev.assign ?_
  refine Seq.nil ?_
  first | refine JC.c (ht := fun c14 => ?_) (hf := fun c14 => ?_) | refine JC.cb (ht := fun c14 => ?_) (hf := fun c14 => ?_)
  · -- then_t14
    exfalso; omega
  · -- else_t14
    refine JC.rs ?_
    refine Seq.p rfl Ev.eq ?_
    refine Seq.p rfl Ev.assign ?_
    refine Seq.nil ?_
    first | refine JC.c (ht := fun c25 => ?_) (hf := fun c25 => ?_) | refine JC.cb (ht := fun c25 => ?_) (hf := fun c25 => ?_)
    · -- then_t25
      exfalso; omega
    · -- else_t25
      refine JC.rs ?_
      refine Seq.p rfl Ev.eq ?_
      refine Seq.p rfl Ev.assign ?_
      refine Seq.nil ?_
      first | refine JC.c (ht := fun c32 => ?_) (hf := fun c32 => ?_) | refine JC.cb (ht := fun c32 => ?_) (hf := fun c32 => ?_)
      · -- then_t32
        exfalso; omega
      · -- else_t32
        refine JC.rs ?_
        refine Seq.p rfl Ev.eq ?_
        refine Seq.p rfl Ev.assign ?_
        refine Seq.nil ?_
        first | refine JC.c (ht := fun c41 => ?_) (hf := fun c41 => ?_) | refine JC.cb (ht := fun c41 => ?_) (hf := fun c41 => ?_)
        · -- then_t41
          exfalso; omega
        · -- else_t41
          refine JC.rs ?_
          refine Seq.p rfl Ev.eq ?_
          refine Seq.p rfl Ev.assign ?_
          refine Seq.nil ?_
          first | refine JC.c (ht := fun c48 => ?_) (hf := fun c48 => ?_) | refine JC.cb (ht := fun c48 => ?_) (hf := fun c48 => ?_)
          · -- then_t48
            exfalso; omega
          · -- else_t48
            refine JC.skip ?_
            refine JC.rs ?_
            refine Seq.p rfl Ev.assign ?_
            refine Seq.nil ?_
            refine JC.ret ?_
            -- return 0
            show retQ _ _ _ _ _ _ _ _
            refine ret1 (hp := Part.nil _) (hpost := ?_)
            rfl
end Go.Rx
namespace Go.Rx
open Go Go.RowKit
set_option linter.unusedVariables false
set_option linter.unusedSimpArgs false
def toldEvE (e : Event) : Int := match evFieldsF e with | none => 41 | some fs => if fs.all (·.fits) = true ∧ eventOfF e.kind (numsF fs) = e then 0 else 40
def EvToldPost (e : Event) (u : Value) (N : List Chunk) : Prop :=
  if toldEvE e = 0 then ∃ fs A c b, evFieldsF e = some fs ∧ u = .tuple #[.slice A fs.length c, .map (some b), .int .i64 0] ∧ N = [.mi b .i64 .u64 (numsF fs), .own 92 3 (.slice A fs.length c) fs.length (fs.flatMap Fld.enc)]
  else u = .tuple #[.slice none 0 0, .map none, .int .i64 (toldEvE e)]
theorem evFieldsF_small {e : Event} {fs : List Fld} (h : evFieldsF e = some fs) : fs.length ≤ 8 ∧ 1 ≤ e.kind ∧ e.kind ≤ 5 := by
  unfold evFieldsF at h
  repeat (first | (split at h) | (simp only [Option.some.injEq] at h; subst h; exact ⟨Nat.le_of_ble_eq_true rfl, by omega, by omega⟩) | cases h)
set_option maxHeartbeats 2000000 in
theorem msgToldEv0 {w : World} {e : Event} (hF : evFieldsF e = none) : Spec Go.Proofs.Tryd.prog 26 #[.agg e.enc.toArray] w [] (EvToldPost e) := by
  have hE : toldEvE e = 41 := by unfold toldEvE; rw [hF]
  refine Spec.enter (fn := Go.Proofs.Tryd.f26) (n := 32) [.agg e.enc.toArray] Go.Proofs.Tryd.func26 (by kernel_rfl) rfl Go.Proofs.Tryd.ntmps26 Go.Proofs.Tryd.results26 rfl (Own.nil _) ?_
  refine JC.rs ?_
  refine Seq.box (cs := [_, _, _, _, _, _, _, _, _, _, _, _, _]) (k := ?_); intro b1
  refine Seq.p rfl Ev.assign ?_
  refine Seq.p rfl Ev.assign ?_
  refine Seq.p rfl Ev.assign ?_
  refine Seq.nil ?_
  refine JC.rs ?_
  refine Seq.p rfl (Ev.ldBA ag.api_Event) ?_
  refine Seq.call rfl (fun w hw => hF ▸ msgEventFields) (F := _) (by exact List.Perm.refl _) ?_
  rintro _ N rfl
  refine Seq.p rfl Ev.move ?_
  refine Seq.p rfl Ev.extract ?_
  refine Seq.p rfl Ev.extract ?_
  refine Seq.p rfl Ev.assign ?_
  refine Seq.p rfl Ev.assign ?_
  refine Seq.nil ?_
  refine JC.seq ?_
  refine JC.rs ?_
  refine Seq.p rfl Ev.move ?_
  refine Seq.p rfl Ev.not ?_
  refine Seq.nil ?_
  first | refine JC.c (ht := fun c14 => ?_) (hf := fun c14 => ?_) | refine JC.cb (ht := fun c14 => ?_) (hf := fun c14 => ?_)
  · -- then_t14
    refine JC.rs ?_
    refine Seq.p rfl Ev.assign ?_
    refine Seq.p rfl Ev.assign ?_
    refine Seq.p rfl Ev.assign ?_
    refine Seq.nil ?_
    refine JC.ret ?_
    -- return 0
    show retQ _ _ _ _ _ _ _ _
    refine ret3 (hp := Part.nil _) (hpost := ?_)
    show EvToldPost _ _ _
    rw [EvToldPost, if_neg (by rw [hE]; decide), hE]
  · -- else_t14
    cases c14
set_option maxHeartbeats 2000000 in
theorem msgToldEv1 {w : World} {e : Event} {fs : List Fld} (hF : evFieldsF e = some fs) (hn : ¬ fs.all (·.fits) = true) : Spec Go.Proofs.Tryd.prog 26 #[.agg e.enc.toArray] w [] (EvToldPost e) := by
  have hE : toldEvE e = 40 := by unfold toldEvE; rw [hF]; exact if_neg (fun h => hn h.1)
  have hsm := (evFieldsF_small hF).1
  refine Spec.enter (fn := Go.Proofs.Tryd.f26) (n := 32) [.agg e.enc.toArray] Go.Proofs.Tryd.func26 (by kernel_rfl) rfl Go.Proofs.Tryd.ntmps26 Go.Proofs.Tryd.results26 rfl (Own.nil _) ?_
  refine JC.rs ?_
  refine Seq.box (cs := [_, _, _, _, _, _, _, _, _, _, _, _, _]) (k := ?_); intro b1
  refine Seq.p rfl Ev.assign ?_
  refine Seq.p rfl Ev.assign ?_
  refine Seq.p rfl Ev.assign ?_
  refine Seq.nil ?_
  refine JC.rs ?_
  refine Seq.p rfl (Ev.ldBA ag.api_Event) ?_
  refine Seq.call rfl (fun w hw => hF ▸ msgEventFields) (F := _) (by exact List.Perm.refl _) ?_
  rintro _ _ ⟨A, cc, rfl, rfl⟩
  refine Seq.p rfl Ev.move ?_
  refine Seq.p rfl Ev.extract ?_
  refine Seq.p rfl Ev.extract ?_
  refine Seq.p rfl Ev.assign ?_
  refine Seq.p rfl Ev.assign ?_
  refine Seq.nil ?_
  refine JC.seq ?_
  refine JC.rs ?_
  refine Seq.p rfl Ev.move ?_
  refine Seq.p rfl Ev.not ?_
  refine Seq.nil ?_
  first | refine JC.c (ht := fun c14 => ?_) (hf := fun c14 => ?_) | refine JC.cb (ht := fun c14 => ?_) (hf := fun c14 => ?_)
  · -- then_t14
    cases c14
  · -- else_t14
    refine JC.skip ?_
    refine JC.rs ?_
    refine Seq.p rfl Ev.move ?_
    refine Seq.call rfl (fun w hw => msgNumbers (RAt.up (RAt.own (enc := Fld.enc) (xs := fs) (sz := 3) (hs := by omega)) hw)) (F := _) (by exact List.Perm.refl _) ?_
    intro u N hN
    rw [NumsPost, if_neg hn] at hN
    subst hN
    refine Seq.p rfl Ev.move ?_
    refine Seq.p rfl Ev.extract ?_
    refine Seq.p rfl Ev.extract ?_
    refine Seq.p rfl Ev.assign ?_
    refine Seq.p rfl Ev.assign ?_
    refine Seq.nil ?_
    refine JC.seq ?_
    refine JC.qs mixed (by kernel_rfl) ?_
    refine Qui.p rfl Ev.move ?_
    refine Qui.p rfl Ev.not ?_
    refine Qui.p rfl Ev.move ?_
    refine Qui.split (d := 22) (k := ?_)
    rintro (_|_) h22
    · try simp only [decide_eq_true_eq, decide_eq_false_iff_not] at h22
      cases h22
    · try simp only [decide_eq_true_eq, decide_eq_false_iff_not] at h22
      refine Qui.gn rfl rfl rfl rfl ?_
      refine Qui.gn rfl rfl rfl rfl ?_
      refine Qui.gn rfl rfl rfl rfl ?_
      refine Qui.gn rfl rfl rfl rfl ?_
      refine Qui.gn rfl rfl rfl rfl ?_
      refine Qui.gn rfl rfl rfl rfl ?_
      refine Qui.p rfl Ev.pickT ?_
      refine Qui.nil ?_
      refine JC.cT (h := ?_)
      refine JC.rs ?_
      refine Seq.p rfl Ev.assign ?_
      refine Seq.p rfl Ev.assign ?_
      refine Seq.p rfl Ev.assign ?_
      refine Seq.nil ?_
      refine JC.ret ?_
      -- return 0
      show retQ _ _ _ _ _ _ _ _
      refine ret3 (hp := Part.nil _) (hpost := ?_)
      show EvToldPost _ _ _
      rw [EvToldPost, if_neg (by rw [hE]; decide), hE]
set_option maxHeartbeats 2000000 in
theorem msgToldEv2 {w : World} {e : Event} {fs : List Fld} (hF : evFieldsF e = some fs) (hn : fs.all (·.fits) = true) : Spec Go.Proofs.Tryd.prog 26 #[.agg e.enc.toArray] w [] (EvToldPost e) := by
  have hE : toldEvE e = if eventOfF e.kind (numsF fs) = e then 0 else 40 := by
    unfold toldEvE
    rw [hF]
    simp only [hn, true_and]
  have hsm := (evFieldsF_small hF).1
  refine Spec.enter (fn := Go.Proofs.Tryd.f26) (n := 32) [.agg e.enc.toArray] Go.Proofs.Tryd.func26 (by kernel_rfl) rfl Go.Proofs.Tryd.ntmps26 Go.Proofs.Tryd.results26 rfl (Own.nil _) ?_
  refine JC.rs ?_
  refine Seq.box (cs := [_, _, _, _, _, _, _, _, _, _, _, _, _]) (k := ?_); intro b1
  refine Seq.p rfl Ev.assign ?_
  refine Seq.p rfl Ev.assign ?_
  refine Seq.p rfl Ev.assign ?_
  refine Seq.nil ?_
  refine JC.rs ?_
  refine Seq.p rfl (Ev.ldBA ag.api_Event) ?_
  refine Seq.call rfl (fun w hw => hF ▸ msgEventFields) (F := _) (by exact List.Perm.refl _) ?_
  rintro _ _ ⟨A, cc, rfl, rfl⟩
  refine Seq.p rfl Ev.move ?_
  refine Seq.p rfl Ev.extract ?_
  refine Seq.p rfl Ev.extract ?_
  refine Seq.p rfl Ev.assign ?_
  refine Seq.p rfl Ev.assign ?_
  refine Seq.nil ?_
  refine JC.seq ?_
  refine JC.rs ?_
  refine Seq.p rfl Ev.move ?_
  refine Seq.p rfl Ev.not ?_
  refine Seq.nil ?_
  first | refine JC.c (ht := fun c14 => ?_) (hf := fun c14 => ?_) | refine JC.cb (ht := fun c14 => ?_) (hf := fun c14 => ?_)
  · -- then_t14
    cases c14
  · -- else_t14
    refine JC.skip ?_
    refine JC.rs ?_
    refine Seq.p rfl Ev.move ?_
    refine Seq.call rfl (fun w hw => msgNumbers (RAt.up (RAt.own (enc := Fld.enc) (xs := fs) (sz := 3) (hs := by omega)) hw)) (F := _) (by exact List.Perm.refl _) ?_
    intro u N hN
    rw [NumsPost, if_pos hn] at hN
    obtain ⟨bn, rfl, rfl⟩ := hN
    refine Seq.p rfl Ev.move ?_
    refine Seq.p rfl Ev.extract ?_
    refine Seq.p rfl Ev.extract ?_
    refine Seq.p rfl Ev.assign ?_
    refine Seq.p rfl Ev.assign ?_
    refine Seq.nil ?_
    refine JC.seq ?_
    refine JC.qs mixed (by kernel_rfl) ?_
    refine Qui.p rfl Ev.move ?_
    refine Qui.p rfl Ev.not ?_
    refine Qui.p rfl Ev.move ?_
    refine Qui.split (d := 22) (k := ?_)
    rintro (_|_) h22
    · try simp only [decide_eq_true_eq, decide_eq_false_iff_not] at h22
      refine Qui.gy rfl rfl rfl ?_
      refine Qui.p rfl (Ev.faB fd.api_Event_1) ?_
      refine Qui.gy rfl rfl rfl ?_
      refine Qui.p rfl (Ev.ldB sc.int) ?_
      refine Qui.gy rfl rfl rfl ?_
      refine Qui.p rfl Ev.move ?_
      refine Qui.gy rfl rfl rfl ?_
      refine Qui.call rfl (fun w hw => msgEventOf (RM.up RM.own hw)) ?_
      refine Qui.gy rfl rfl rfl ?_
      refine Qui.p rfl (Ev.ldBA ag.api_Event) ?_
      refine Qui.gy rfl rfl rfl ?_
      refine Qui.p rfl (Ev.neAg so.api_Event ag.api_Event gd.api_Event) ?_
      refine Qui.p rfl Ev.pickF ?_
      refine Qui.nil ?_
      first | refine JC.c (ht := fun c29 => ?_) (hf := fun c29 => ?_) | refine JC.cb (ht := fun c29 => ?_) (hf := fun c29 => ?_)
      · -- then_t29
        have c35 : (!eqL (eventOfF e.kind (numsF fs)).enc e.enc) = true := c29
        rw [Event.eqL_enc] at c35
        have hne : ¬ eventOfF e.kind (numsF fs) = e := by simpa using c35
        rw [if_neg hne] at hE
        refine JC.rs ?_
        refine Seq.p rfl Ev.assign ?_
        refine Seq.p rfl Ev.assign ?_
        refine Seq.p rfl Ev.assign ?_
        refine Seq.nil ?_
        refine JC.ret ?_
        -- return 0
        show retQ _ _ _ _ _ _ _ _
        refine ret3 (hp := Part.nil _) (hpost := ?_)
        show EvToldPost _ _ _
        rw [EvToldPost, if_neg (by rw [hE]; decide), hE]
      · -- else_t29
        have c35 : (!eqL (eventOfF e.kind (numsF fs)).enc e.enc) = false := c29
        rw [Event.eqL_enc] at c35
        have heq : eventOfF e.kind (numsF fs) = e := of_ndec c35
        rw [if_pos heq] at hE
        refine JC.skip ?_
        refine JC.rs ?_
        refine Seq.p rfl Ev.move ?_
        refine Seq.p rfl Ev.move ?_
        refine Seq.p rfl Ev.assign ?_
        refine Seq.p rfl Ev.assign ?_
        refine Seq.p rfl Ev.assign ?_
        refine Seq.nil ?_
        refine JC.ret ?_
        -- return 1
        show retQ _ _ _ _ _ _ _ _
        refine ret3 (H' := [.mi bn .i64 .u64 (numsF fs), .own 92 3 (.slice A fs.length cc) fs.length (fs.flatMap Fld.enc)]) (hp := Part.here (Part.here (Part.nil _))) (hpost := ?_)
        show EvToldPost _ _ _
        rw [EvToldPost, if_pos hE]
        exact ⟨fs, A, cc, bn, hF, rfl, rfl⟩
    · try simp only [decide_eq_true_eq, decide_eq_false_iff_not] at h22
      cases h22
theorem msgToldEv {w : World} {e : Event} : Spec Go.Proofs.Tryd.prog 26 #[.agg e.enc.toArray] w [] (EvToldPost e) := by
  rcases hF : evFieldsF e with _ | fs
  · exact msgToldEv0 hF
  · by_cases hn : fs.all (·.fits) = true
    · exact msgToldEv2 hF hn
    · exact msgToldEv1 hF hn
def evFrameF (k : Int) (ms : List (Int × Int)) : Frame :=
  ⟨(64 + k) % 256, [iget ms 34, iget ms 11, add64 (iget ms 37) (iget ms 41), add64 (add64 (add64 (iget ms 1) (up (iget ms 54) 32)) (up (iget ms 40) 40)) (up (iget ms 378) 48), add64 (iget ms 44) (up (iget ms 103) 32), iget ms 38, iget ms 210]⟩
def packEvF (e : Event) : Frame × Int := if toldEvE e = 0 then (match evFieldsF e with | some fs => evFrameF e.kind (numsF fs) | none => frame0, 0) else (frame0, toldEvE e)
end Go.Rx
namespace Go.Rx
open Go Go.RowKit
set_option linter.unusedVariables false
set_option linter.unusedSimpArgs false
def evStepF (i : Event) (f : RF) (s : Event × List Int) : Option (Event × List Int) :=
  if (eventValueF i f.tag).2 = false then none else if 0 < f.most ∧ f.most < (eventValueF i f.tag).1 then none else some (withEventF s.1 f.tag (eventValueF i f.tag).1, s.2 ++ [(eventValueF i f.tag).1])
def evValsGo (i : Event) : List RF → Event × List Int → Option (Event × List Int)
  | [], s => some s
  | f :: r, s => match evStepF i f s with | none => none | some s' => evValsGo i r s'
theorem evValsGo_append (i : Event) (xs ys : List RF) (s : Event × List Int) : evValsGo i (xs ++ ys) s = match evValsGo i xs s with | none => none | some s' => evValsGo i ys s' := by
  induction xs generalizing s with
  | nil => rfl
  | cons f r ih =>
    simp only [List.cons_append, evValsGo]
    cases evStepF i f s with
    | none => rfl
    | some s' => exact ih s'
theorem evValsGo_snoc {i : Event} {l : List RF} {k : Nat} (hk : k < l.length) {s s' : Event × List Int} (h : evValsGo i (l.take k) s = some s') : evValsGo i (l.take (k + 1)) s = evStepF i l[k]! s' := by
  have : l.take (k + 1) = l.take k ++ [l[k]!] := by
    rw [List.take_succ_eq_append_getElem hk, getElem!_pos l k hk]
  rw [this, evValsGo_append, h]
  simp only [evValsGo]
  cases evStepF i l[k]! s' <;> rfl
theorem evValsGo_none {i : Event} {l : List RF} {k : Nat} {s : Event × List Int} (h : evValsGo i (l.take k) s = none) : evValsGo i l s = none := by
  rw [← List.take_append_drop k l, evValsGo_append, h]
theorem evValsGo_length {i : Event} : ∀ (l : List RF) (s s' : Event × List Int), evValsGo i l s = some s' → s'.2.length = s.2.length + l.length
  | [], s, s', h => by
    simp only [evValsGo, Option.some.injEq] at h
    subst h
    rfl
  | f :: r, s, s', h => by
    simp only [evValsGo] at h
    cases hs : evStepF i f s with
    | none => rw [hs] at h; cases h
    | some t =>
      rw [hs] at h
      have := evValsGo_length r t s' h
      unfold evStepF at hs
      split at hs
      · cases hs
      · split at hs
        · cases hs
        · simp only [Option.some.injEq] at hs
          subst hs
          simp only [List.length_append, List.length_singleton] at this
          simp only [List.length_cons]
          omega
def ev0 (k : Int) : Event := ⟨0, k, 0, 0, 0, 0, 0, 0, 0, 0, 0, 0, 0⟩
def refEvE (i : Event) : Int :=
  if ¬ (1 ≤ i.kind ∧ i.kind ≤ 5) then 41 else match evValsGo i (toldRF i.kind) (ev0 i.kind, []) with | none => 40 | some s => if s.1 = i then 0 else 40
def EvValuesPost (i : Event) (u : Value) (N : List Chunk) : Prop :=
  if refEvE i = 0 then ∃ s A c, (1 ≤ i.kind ∧ i.kind ≤ 5) ∧ evValsGo i (toldRF i.kind) (ev0 i.kind, []) = some s ∧ u = .tuple #[.slice A s.2.length c, .int .i64 0] ∧ N = [.own 22 1 (.slice A s.2.length c) s.2.length (s.2.flatMap uenc)]
  else u = .tuple #[.slice none 0 0, .int .i64 (refEvE i)]
theorem toldRF_small (k : Int) : (toldRF k).length ≤ 8 := by
  unfold toldRF
  repeat (first | exact Nat.le_of_ble_eq_true rfl | split)
theorem toldRF_pos {k : Int} (hk : 1 ≤ k ∧ k ≤ 5) : 1 ≤ (toldRF k).length := by
  have : k = 1 ∨ k = 2 ∨ k = 3 ∨ k = 4 ∨ k = 5 := by omega
  rcases this with rfl | rfl | rfl | rfl | rfl <;> exact Nat.le_of_ble_eq_true rfl
theorem toldRF_words (k : Int) : ∀ f ∈ toldRF k, 0 ≤ f.word ∧ f.word < 7 ∧ 0 ≤ f.shift := by
  have h : ((toldRF k).all fun f => decide (0 ≤ f.word ∧ f.word < 7 ∧ 0 ≤ f.shift)) = true := by
    unfold toldRF
    repeat (first | rfl | split)
  intro f hf
  exact of_decide_eq_true (List.all_eq_true.1 h f hf)
set_option maxHeartbeats 4000000 in
set_option maxRecDepth 100000 in
theorem refEvValues0 {w : World} {i : Event} (hk : ¬ (1 ≤ i.kind ∧ i.kind ≤ 5)) : Spec Go.Proofs.Tryd.prog 29 #[.agg i.enc.toArray] w [] (EvValuesPost i) := by
  refine Spec.enter (fn := Go.Proofs.Tryd.f29) (n := 70) [.agg i.enc.toArray] Go.Proofs.Tryd.func29 (by kernel_rfl) rfl Go.Proofs.Tryd.ntmps29 Go.Proofs.Tryd.results29 rfl (Own.nil _) ?_
  refine JC.rs ?_
  refine Seq.box (cs := [_, _, _, _, _, _, _, _, _, _, _, _, _]) (k := ?_); intro b1
  refine Seq.p rfl Ev.assign ?_
  refine Seq.p rfl Ev.assign ?_
  refine Seq.nil ?_
  refine JC.rs ?_
  refine Seq.p rfl (Ev.faB fd.api_Event_1) ?_
  refine Seq.p rfl (Ev.ldB sc.int) ?_
  refine Seq.callP rfl (fun w hw => refTold0 hk) ?_
  refine Seq.p rfl Ev.assign ?_
  refine Seq.nil ?_
  refine JC.seq ?_
  refine JC.rs ?_
  refine Seq.p rfl Ev.move ?_
  refine Seq.p rfl (Ev.lenSl sl.sl_bourseref04_field (hr := (RSl.r (RSl.empty RF.enc 4 w _)))) ?_
  refine Seq.p rfl Ev.eq ?_
  refine Seq.nil ?_
  first | refine JC.c (ht := fun c15 => ?_) (hf := fun c15 => ?_) | refine JC.cb (ht := fun c15 => ?_) (hf := fun c15 => ?_)
  · -- then_t15
    refine JC.rs ?_
    refine Seq.p rfl Ev.assign ?_
    refine Seq.p rfl Ev.assign ?_
    refine Seq.nil ?_
    refine JC.ret ?_
    -- return 0
    show retQ _ _ _ _ _ _ _ _
    refine ret2 (hp := Part.nil _) (hpost := ?_)
    have hE : refEvE i = 41 := if_pos hk
    show EvValuesPost _ _ _
    rw [EvValuesPost, if_neg (by rw [hE]; decide), hE]
  · -- else_t15
    exact absurd rfl c15
set_option maxHeartbeats 4000000 in
set_option maxRecDepth 100000 in
theorem refEvValues1 {w : World} {i : Event} (hk : 1 ≤ i.kind ∧ i.kind ≤ 5) : Spec Go.Proofs.Tryd.prog 29 #[.agg i.enc.toArray] w [] (EvValuesPost i) := by
  have hsm := toldRF_small i.kind
  have hpos := toldRF_pos hk
  have hE : refEvE i = match evValsGo i (toldRF i.kind) (ev0 i.kind, []) with | none => 40 | some s => if s.1 = i then 0 else 40 := if_neg (fun h => h hk)
  have hsp := @refTold
  generalize hl : toldRF i.kind = l at hsm hE hpos
  refine Spec.enter (fn := Go.Proofs.Tryd.f29) (n := 70) [.agg i.enc.toArray] Go.Proofs.Tryd.func29 (by kernel_rfl) rfl Go.Proofs.Tryd.ntmps29 Go.Proofs.Tryd.results29 rfl (Own.nil _) ?_
  refine JC.rs ?_
  refine Seq.box (cs := [_, _, _, _, _, _, _, _, _, _, _, _, _]) (k := ?_); intro b1
  refine Seq.p rfl Ev.assign ?_
  refine Seq.p rfl Ev.assign ?_
  refine Seq.nil ?_
  refine JC.rs ?_
  refine Seq.p rfl (Ev.faB fd.api_Event_1) ?_
  refine Seq.p rfl (Ev.ldB sc.int) ?_
  refine Seq.call rfl (fun w hw => hl ▸ hsp hk) (F := _) (by exact List.Perm.refl _) ?_
  rintro _ _ ⟨bl, rfl, rfl⟩
  refine Seq.p rfl Ev.assign ?_
  refine Seq.nil ?_
  refine JC.seq ?_
  refine JC.rs ?_
  refine Seq.p rfl Ev.move ?_
  refine Seq.p rfl (Ev.lenSl sl.sl_bourseref04_field (hr := RAt.box (enc := RF.enc) (sz := 4) (hs := by omega))) ?_
  refine Seq.p rfl Ev.eq ?_
  refine Seq.nil ?_
  first | refine JC.c (ht := fun c15 => ?_) (hf := fun c15 => ?_) | refine JC.cb (ht := fun c15 => ?_) (hf := fun c15 => ?_)
  · -- then_t15
    exfalso; omega
  · -- else_t15
    refine JC.skip ?_
    refine JC.rs ?_
    refine Seq.p rfl (Ev.faB fd.api_Event_1) ?_
    refine Seq.p rfl (Ev.ldB sc.int) ?_
    refine Seq.p rfl (Ev.buildN [_, _, _, _, _, _, _, _, _, _, _, _, _] pl.api_Event z.api_Event) ?_
    refine Seq.alloc (cs := [_, _, _, _, _, _, _, _, _, _, _, _, _]) (hz := z.api_Event) (k := ?_); intro b5
    refine Seq.storeN [_, _, _, _, _, _, _, _, _, _, _, _, _] sz.api_Event (k := ?_)
    refine Seq.nil ?_
    refine JC.rs ?_
    refine Seq.p rfl Ev.assign ?_
    refine Seq.re (fun w h => Upd.nilOwn h 22 1) ?_
    refine Seq.nil ?_
    refine JC.seq ?_
    refine JC.rs ?_
    refine Seq.p rfl Ev.assign ?_
    refine Seq.nil ?_
    refine JC.blk ?_
    refine JC.loop (α := Nat × Option Addr × Nat × Event × List Int) (I := fun s e1 H1 => Has [2, 3, 6, 7, 8, 9, 19, 20, 21, 22, 23, 24, 25, 26, 27, 28, 29, 30, 31, 32, 33, 34, 35, 36, 37, 38, 39, 40, 41, 42, 43, 44, 45, 46, 47, 48, 49, 50, 51, 52, 53, 54, 55, 56, 57, 58, 59, 60, 61, 62, 63, 64, 65] [(7, .int .i64 (s.1 : Int)), (6, .slice s.2.1 s.1 s.2.2.1)] _ e1 ∧ H1 = [.own 22 1 (.slice s.2.1 s.1 s.2.2.1) s.1 (s.2.2.2.2.flatMap uenc), .box b5 30 s.2.2.2.1.enc, .box bl 65 (l.flatMap RF.enc), .box b1 30 i.enc] ∧ s.1 ≤ l.length ∧ evValsGo i (l.take s.1) (ev0 i.kind, []) = some (s.2.2.2.1, s.2.2.2.2) ∧ s.2.2.2.2.length = s.1) (μ := fun s => l.length - s.1) (0, none, 0, ev0 i.kind, []) ⟨Has.mk Off.refl (allLook_cons (by repeat (first | exact Look.here | apply Look.there (hne := rfl) | exact Look.const | apply Look.mix rfl | exact Look.arg0 | apply Look.args | exact Look.func)) (allLook_cons (by repeat (first | exact Look.here | apply Look.there (hne := rfl) | exact Look.const | apply Look.mix rfl | exact Look.arg0 | apply Look.args | exact Look.func)) allLook_nil)), rfl, by omega, rfl, rfl⟩ ?_
    rintro ⟨k, A, cc, agn, out⟩ _ _ ⟨⟨ui, rfl⟩, rfl, hk2', hv, hol⟩; dsimp only [setL]; dsimp only at hk2' hv hol
    refine JC.seq ?_
    refine JC.rs ?_
    refine Seq.p rfl Ev.move ?_
    refine Seq.p rfl Ev.move ?_
    refine Seq.p rfl (Ev.lenSl sl.sl_bourseref04_field (hr := RAt.box (enc := RF.enc) (sz := 4) (hs := by omega))) ?_
    refine Seq.p rfl Ev.lt ?_
    refine Seq.nil ?_
    first | refine JC.c (ht := fun c22 => ?_) (hf := fun c22 => ?_) | refine JC.cb (ht := fun c22 => ?_) (hf := fun c22 => ?_)
    · -- then_t22
      have hk2 : k < l.length := by omega
      have hsn := evValsGo_snoc hk2 hv
      refine JC.skip ?_
      refine JC.seq ?_
      refine JC.blk ?_
      refine JC.qs mixed (by kernel_rfl) ?_
      refine Qui.p rfl (Ev.ldBA ag.api_Event) ?_
      refine Qui.p rfl Ev.move ?_
      refine Qui.p rfl Ev.move ?_
      refine Qui.p rfl (Ev.iaN sl.sl_bourseref04_field (hr := RAt.box (enc := RF.enc) (sz := 4) (hs := by omega))) ?_
      refine Qui.p rfl (Ev.fa fd.bourseref04_field_0) ?_
      refine Qui.p rfl (Ev.ldE sc.int (hr := RAt.box (enc := RF.enc) (sz := 4) (hs := by omega))) ?_
      refine Qui.call rfl (fun w hw => refEventValue) ?_
      refine Qui.p rfl Ev.move ?_
      refine Qui.p rfl Ev.extract ?_
      refine Qui.p rfl Ev.extract ?_
      refine Qui.p rfl Ev.assign ?_
      refine Qui.p rfl Ev.assign ?_
      refine Qui.nil ?_
      refine JC.seq ?_
      refine JC.rs ?_
      refine Seq.p rfl Ev.move ?_
      refine Seq.p rfl Ev.not ?_
      refine Seq.p rfl Ev.move ?_
      refine Seq.orG (D := [37, 38, 39, 40, 41, 42, 43, 44, 45, 46, 47, 48, 49, 50, 51, 52, 53]) (d := 37) (t := 53) (k := 16) (hn := fun h37 => ?_) (hx := ?_)
      · repeat (first | refine Seq.gn rfl rfl rfl rfl ?_ | refine Seq.gu rfl rfl rfl ?_)
        refine Seq.p rfl Ev.pickT ?_
        exact Seq.nil ⟨rfl, (by repeat (first | with_reducible exact Off.refl | refine Off.upd ?_ rfl | exact Off.mix | refine Off.mix2 ?_ rfl)), Look.here⟩
      apply Exists.intro
      refine ⟨fun h37 => ?_, fun u53 => ?_⟩
      · try simp only [decide_eq_true_eq, decide_eq_false_iff_not, Bool.and_eq_true, Bool.or_eq_true, Bool.not_eq_true', Bool.not_eq_false', Bool.or_eq_false_iff, Bool.and_eq_false_imp] at h37
        refine Seq.gy rfl rfl rfl ?_
        refine Seq.p rfl Ev.move ?_
        refine Seq.gy rfl rfl rfl ?_
        refine Seq.p rfl Ev.move ?_
        refine Seq.gy rfl rfl rfl ?_
        refine Seq.p rfl (Ev.iaN sl.sl_bourseref04_field (hr := RAt.box (enc := RF.enc) (sz := 4) (hs := by omega))) ?_
        refine Seq.gy rfl rfl rfl ?_
        refine Seq.p rfl (Ev.fa fd.bourseref04_field_1) ?_
        refine Seq.gy rfl rfl rfl ?_
        refine Seq.p rfl (Ev.ldE sc.uint64 (hr := RAt.box (enc := RF.enc) (sz := 4) (hs := by omega))) ?_
        refine Seq.gy rfl rfl rfl ?_
        refine Seq.p rfl Ev.gt ?_
        refine Seq.gy rfl rfl rfl ?_
        refine Seq.p rfl Ev.move ?_
        refine Seq.andG (D := [44, 45, 46, 47, 48, 49, 50, 51, 52]) (d := 44) (t := 52) (k := 8) (hn := fun h44 => ?_) (hx := ?_)
        · repeat (first | refine Seq.gn rfl rfl rfl rfl ?_ | refine Seq.gu rfl rfl rfl ?_)
          refine Seq.gy rfl rfl rfl ?_
          refine Seq.p rfl Ev.pickF ?_
          exact Seq.nil ⟨rfl, (by repeat (first | with_reducible exact Off.refl | refine Off.upd ?_ rfl | exact Off.mix | refine Off.mix2 ?_ rfl)), Look.here⟩
        apply Exists.intro
        refine ⟨fun h44 => ?_, fun u52 => ?_⟩
        · try simp only [decide_eq_true_eq, decide_eq_false_iff_not, Bool.and_eq_true, Bool.or_eq_true, Bool.not_eq_true', Bool.not_eq_false', Bool.or_eq_false_iff, Bool.and_eq_false_imp] at h44
          refine Seq.gy rfl rfl rfl ?_
          refine Seq.p rfl Ev.move ?_
          refine Seq.gy rfl rfl rfl ?_
          refine Seq.p rfl Ev.move ?_
          refine Seq.gy rfl rfl rfl ?_
          refine Seq.p rfl Ev.move ?_
          refine Seq.gy rfl rfl rfl ?_
          refine Seq.p rfl (Ev.iaN sl.sl_bourseref04_field (hr := RAt.box (enc := RF.enc) (sz := 4) (hs := by omega))) ?_
          refine Seq.gy rfl rfl rfl ?_
          refine Seq.p rfl (Ev.fa fd.bourseref04_field_1) ?_
          refine Seq.gy rfl rfl rfl ?_
          refine Seq.p rfl (Ev.ldE sc.uint64 (hr := RAt.box (enc := RF.enc) (sz := 4) (hs := by omega))) ?_
          refine Seq.gy rfl rfl rfl ?_
          refine Seq.p rfl Ev.gt ?_
          refine Seq.gy rfl rfl rfl ?_
          refine Seq.p rfl Ev.pickT ?_
          exact Seq.nil ⟨rfl, (by repeat (first | with_reducible exact Off.refl | refine Off.upd ?_ rfl | exact Off.mix | refine Off.mix2 ?_ rfl)), Look.here⟩
        refine Seq.p rfl Ev.pickF ?_
        exact Seq.nil ⟨rfl, (by repeat (first | with_reducible exact Off.refl | refine Off.upd ?_ rfl | exact Off.mix | refine Off.mix2 ?_ rfl)), Look.here⟩
      refine Seq.nil ?_
      first | refine JC.c (ht := fun c53 => ?_) (hf := fun c53 => ?_) | refine JC.cb (ht := fun c53 => ?_) (hf := fun c53 => ?_)
      · -- then_t53
        refine JC.rs ?_
        refine Seq.p rfl Ev.assign ?_
        refine Seq.p rfl Ev.assign ?_
        refine Seq.nil ?_
        refine JC.ret ?_
        -- return 0
        show retQ _ _ _ _ _ _ _ _
        refine ret2 (hp := Part.nil _) (hpost := ?_)
        have hst : evStepF i l[k]! (agn, out) = none := by
          rw [evStepF]
          rcases step_no c53 with h | h
          · rw [if_pos h]
          · by_cases h0 : (eventValueF i l[k]!.tag).2 = false
            · rw [if_pos h0]
            · rw [if_neg h0, if_pos h]
        rw [hst] at hsn
        have hE40 : refEvE i = 40 := by rw [hE, evValsGo_none hsn]
        show EvValuesPost _ _ _
        rw [EvValuesPost, if_neg (by rw [hE40]; decide), hE40]
      · -- else_t53
        refine JC.skip ?_
        refine JC.asE 1 mixed ?_
        refine Any.p 1 rfl (by kernel_rfl) (by kernel_rfl) (by kernel_rfl) rfl Ev.move ?_
        refine Any.p 2 rfl (by kernel_rfl) (by kernel_rfl) (by kernel_rfl) rfl Ev.move ?_
        refine Any.p 3 rfl (by kernel_rfl) (by kernel_rfl) (by kernel_rfl) rfl (Ev.iaN sl.sl_bourseref04_field (hr := RAt.box (enc := RF.enc) (sz := 4) (hs := by omega))) ?_
        refine Any.p 4 rfl (by kernel_rfl) (by kernel_rfl) (by kernel_rfl) rfl (Ev.fa fd.bourseref04_field_0) ?_
        refine Any.p 5 rfl (by kernel_rfl) (by kernel_rfl) (by kernel_rfl) rfl (Ev.ldE sc.int (hr := RAt.box (enc := RF.enc) (sz := 4) (hs := by omega))) ?_
        refine Any.p 6 rfl (by kernel_rfl) (by kernel_rfl) (by kernel_rfl) rfl Ev.move ?_
        refine Any.one 0 rfl (by kernel_rfl) ?_
        refine Seq.p rfl (Ev.ldBA ag.api_Event) ?_
        refine Seq.nil ⟨(by repeat (first | exact Part.refl _ | exact Part.nil _ | apply Part.here | apply Part.skip)), ?_⟩
        refine Any.call 7 rfl (by kernel_rfl) (by kernel_rfl) (by kernel_rfl) rfl (fun w hw => refWithEvent) ?_
        refine Any.one 8 rfl (by kernel_rfl) ?_
        refine Seq.storeN [_, _, _, _, _, _, _, _, _, _, _, _, _] sz.api_Event (k := ?_)
        refine Seq.nil ⟨(by repeat (first | exact Part.refl _ | exact Part.nil _ | apply Part.here | apply Part.skip)), ?_⟩
        refine Any.done (by kernel_rfl) ?_
        refine JC.reg ?_
        refine Seq.p rfl Ev.move ?_
        refine Seq.p rfl Ev.move ?_
        refine Seq.buildSlN [_] (hsl := sl.sl_uint64) (hz := z.uint64) (k := ?_); intro b64
        refine Seq.append (hsl := sl.sl_uint64) (he := el.uint64) (hsrc := (fun w' hw => Src.box (news := [.int .u64 (eventValueF i l[k]!.tag).1]) sl.sl_uint64 At.z hw rfl (by intro q u hu; cases q with | zero => exact hu | succ q => simp at hu))) (k := ?_); intro A65 c65
        refine Seq.p rfl Ev.assign ?_
        refine Seq.nil ?_
        refine JC.reg ?_
        refine Seq.p rfl Ev.move ?_
        refine Seq.p rfl (by first | exact Ev.inc | exact Ev.add) ?_
        refine Seq.p rfl Ev.assign ?_
        refine Seq.nil ?_
        have hst : evStepF i l[k]! (agn, out) = some (withEventF agn l[k]!.tag (eventValueF i l[k]!.tag).1, out ++ [(eventValueF i l[k]!.tag).1]) := by rw [evStepF, if_neg (step_yes c53).1, if_neg (step_yes c53).2]
        rw [hst] at hsn
        refine ⟨(k + 1, A65, c65, withEventF agn l[k]!.tag (eventValueF i l[k]!.tag).1, out ++ [(eventValueF i l[k]!.tag).1]), _, Part.skip (Part.refl _), ⟨Has.mk (by repeat (first | refine Off.upd ?_ rfl | exact Off.mix | refine Off.mix2 ?_ rfl | exact Off.refl)) (allLook_cons (by repeat (first | exact Look.here | apply Look.there (hne := rfl) | exact Look.const | apply Look.mix rfl | exact Look.arg0 | apply Look.args | exact Look.func)) (allLook_cons (by repeat (first | exact Look.here | apply Look.there (hne := rfl) | exact Look.const | apply Look.mix rfl | exact Look.arg0 | apply Look.args | exact Look.func)) allLook_nil)), by simp only [List.flatMap_append]; rfl, by show k + 1 ≤ l.length; omega, hsn, by simp [hol]⟩, by show l.length - (k + 1) < l.length - k; omega⟩
    · -- else_t22
      obtain rfl : k = l.length := by omega
      rw [List.take_length] at hv
      rw [hv] at hE
      dsimp only at hE
      refine JC.exit ?_ -- 0
      refine JC.seq ?_
      refine JC.rs ?_
      refine Seq.p rfl (Ev.ldBA ag.api_Event) ?_
      refine Seq.p rfl (Ev.ldBA ag.api_Event) ?_
      refine Seq.p rfl (Ev.neAg so.api_Event ag.api_Event gd.api_Event) ?_
      refine Seq.nil ?_
      first | refine JC.c (ht := fun c68 => ?_) (hf := fun c68 => ?_) | refine JC.cb (ht := fun c68 => ?_) (hf := fun c68 => ?_)
      · -- then_t68
        have c69 : (!eqL agn.enc i.enc) = true := c68
        rw [Event.eqL_enc] at c69
        have hne : ¬ agn = i := by simpa using c69
        rw [if_neg hne] at hE
        refine JC.rs ?_
        refine Seq.p rfl Ev.assign ?_
        refine Seq.p rfl Ev.assign ?_
        refine Seq.nil ?_
        refine JC.ret ?_
        -- return 1
        show retQ _ _ _ _ _ _ _ _
        refine ret2 (hp := Part.nil _) (hpost := ?_)
        show EvValuesPost _ _ _
        rw [EvValuesPost, if_neg (by rw [hE]; decide), hE]
      · -- else_t68
        have c69 : (!eqL agn.enc i.enc) = false := c68
        rw [Event.eqL_enc] at c69
        have heq : agn = i := of_ndec c69
        rw [if_pos heq] at hE
        refine JC.skip ?_
        refine JC.rs ?_
        refine Seq.p rfl Ev.move ?_
        refine Seq.p rfl Ev.assign ?_
        refine Seq.p rfl Ev.assign ?_
        refine Seq.nil ?_
        refine JC.ret ?_
        -- return 2
        show retQ _ _ _ _ _ _ _ _
        refine ret2 (hp := Part.here (Part.nil _)) (hpost := ?_)
        show EvValuesPost _ _ _
        rw [EvValuesPost, if_pos hE]
        refine ⟨(agn, out), A, cc, hk, by rw [hl]; exact hv, ?_, ?_⟩
        · show _ = Value.tuple #[.slice A out.length cc, _]; rw [hol]
        · show _ = [Chunk.own _ _ (.slice A out.length cc) out.length _]; rw [hol]
theorem refEvValues {w : World} {i : Event} : Spec Go.Proofs.Tryd.prog 29 #[.agg i.enc.toArray] w [] (EvValuesPost i) := by
  by_cases hk : 1 ≤ i.kind ∧ i.kind ≤ 5
  · exact refEvValues1 hk
  · exact refEvValues0 hk
def refPackEvF (i : Event) : Frame × Int :=
  if refEvE i = 0 then (match evValsGo i (toldRF i.kind) (ev0 i.kind, []) with | some s => laidF (64 + i.kind) (toldRF i.kind) s.2 | none => frame0, 0) else (frame0, refEvE i)
end Go.Rx
namespace Go.Rx
open Go Go.RowKit
set_option linter.unusedVariables false
set_option linter.unusedSimpArgs false
structure Event.Wf (e : Event) : Prop where
  seq : 0 ≤ e.seq ∧ e.seq ≤ 18446744073709551615
  id : 0 ≤ e.id ∧ e.id ≤ 18446744073709551615
  other : 0 ≤ e.other ∧ e.other ≤ 18446744073709551615
  target : 0 ≤ e.target ∧ e.target ≤ 18446744073709551615
  member : 0 ≤ e.member ∧ e.member ≤ 4294967295
  side : -9223372036854775808 ≤ e.side ∧ e.side ≤ 9223372036854775807
  type : -9223372036854775808 ≤ e.type ∧ e.type ≤ 9223372036854775807
  price : -9223372036854775808 ≤ e.price ∧ e.price ≤ 9223372036854775807
  qty : 0 ≤ e.qty ∧ e.qty ≤ 18446744073709551615
  peak : 0 ≤ e.peak ∧ e.peak ≤ 18446744073709551615
  reason : -9223372036854775808 ≤ e.reason ∧ e.reason ≤ 9223372036854775807
  code : -9223372036854775808 ≤ e.code ∧ e.code ≤ 9223372036854775807
theorem evStep_small {i : Event} {f : RF} {s : Event × List Int} {n : Int} (hn : -9223372036854775808 ≤ n ∧ n ≤ 9223372036854775807) (hv : eventValueF i f.tag = (n % 18446744073709551616, decide (0 ≤ n))) (hm : 0 < f.most ∧ f.most ≤ 4294967295) :
    evStepF i f s = if 0 ≤ n ∧ n ≤ f.most then some (withEventF s.1 f.tag (n % 18446744073709551616), s.2 ++ [n % 18446744073709551616]) else none := by
  unfold evStepF
  rw [hv]
  by_cases h0 : 0 ≤ n
  · have e1 : n % 18446744073709551616 = n := Int.emod_eq_of_lt h0 (by omega)
    simp only [e1, h0, decide_true, true_and]
    by_cases h1 : n ≤ f.most
    · rw [if_pos h1, if_neg (by simp), if_neg (by omega)]
    · rw [if_neg h1, if_neg (by simp), if_pos ⟨hm.1, by omega⟩]
  · rw [if_pos (by simp [h0]), if_neg (fun h => h0 h.1)]
theorem evStep_any {i : Event} {f : RF} {s : Event × List Int} {n : Int} (hv : eventValueF i f.tag = (n, true)) (hm : f.most = 0 ∨ n ≤ f.most) :
    evStepF i f s = some (withEventF s.1 f.tag n, s.2 ++ [n]) := by
  unfold evStepF
  rw [hv, if_neg (by simp), if_neg (by simp only; omega)]
theorem packEv_err {i : Event} {e : Int} (he : e ≠ 0) (h1 : toldEvE i = e) (h2 : refEvE i = e) : packEvF i = refPackEvF i := by
  rw [packEvF, refPackEvF, if_neg (by rw [h1]; exact he), if_neg (by rw [h2]; exact he), h1, h2]
theorem add64_add0 (a b : Int) : add64 (add64 a b) 0 = add64 a b := add64_zero' (add64_range a b)
theorem packEv_1 {e : Event} (hw : e.Wf) (h1 : e.kind = 1) : packEvF e = refPackEvF e := by
  have hF : evFieldsF e = some (evFields1 e) := by rw [evFieldsF, if_pos h1]
  have hR : refEvE e = match evValsGo e (toldRF 1) (ev0 1, []) with | none => 40 | some s => if s.1 = e then 0 else 40 := by
    rw [refEvE, if_neg (by omega), h1]
    all_goals rfl
  have hm := hw.member
  have em : e.member % 18446744073709551616 = e.member := Int.emod_eq_of_lt hm.1 (by omega)
  have em2 : e.member % 4294967296 = e.member := Int.emod_eq_of_lt hm.1 (by omega)
  have v0 : ∀ s, evStepF e ⟨34, 0, 0, 0⟩ s = _ := fun s => evStep_any (n := e.seq) rfl (.inl rfl)
  have v1 : ∀ s, evStepF e ⟨11, 0, 1, 0⟩ s = _ := fun s => evStep_any (n := e.id) rfl (.inl rfl)
  have v2 : ∀ s, evStepF e ⟨1, 4294967295, 3, 0⟩ s = _ := fun s => evStep_any (n := e.member % 18446744073709551616) rfl (.inr (by rw [em]; exact hm.2))
  have v3 : ∀ s, evStepF e ⟨54, 255, 3, 32⟩ s = _ := fun s => evStep_small hw.side rfl (by decide)
  have v4 : ∀ s, evStepF e ⟨40, 255, 3, 40⟩ s = _ := fun s => evStep_small hw.type rfl (by decide)
  have v5 : ∀ s, evStepF e ⟨44, 4294967295, 4, 0⟩ s = _ := fun s => evStep_small hw.price rfl (by decide)
  have v6 : ∀ s, evStepF e ⟨38, 0, 5, 0⟩ s = _ := fun s => evStep_any (n := e.qty) rfl (.inl rfl)
  have v7 : ∀ s, evStepF e ⟨210, 0, 6, 0⟩ s = _ := fun s => evStep_any (n := e.peak) rfl (.inl rfl)
  have hV : evValsGo e (toldRF 1) (ev0 1, []) = evValsGo e [⟨34, 0, 0, 0⟩, ⟨11, 0, 1, 0⟩, ⟨1, 4294967295, 3, 0⟩, ⟨54, 255, 3, 32⟩, ⟨40, 255, 3, 40⟩, ⟨44, 4294967295, 4, 0⟩, ⟨38, 0, 5, 0⟩, ⟨210, 0, 6, 0⟩] (ev0 1, []) := rfl
  by_cases hs : (0 ≤ e.side ∧ e.side ≤ 255) ∧ (0 ≤ e.type ∧ e.type ≤ 255) ∧ (0 ≤ e.price ∧ e.price ≤ 4294967295)
  · obtain ⟨b0, b1, b2⟩ := hs
    have m0 : e.side % 18446744073709551616 = e.side := Int.emod_eq_of_lt b0.1 (by omega)
    have f0 : s64 e.side = e.side := s64_in (by omega)
    have m1 : e.type % 18446744073709551616 = e.type := Int.emod_eq_of_lt b1.1 (by omega)
    have f1 : s64 e.type = e.type := s64_in (by omega)
    have m2 : e.price % 18446744073709551616 = e.price := Int.emod_eq_of_lt b2.1 (by omega)
    have f2 : s64 e.price = e.price := s64_in (by omega)
    simp only [evValsGo, v0, v1, v2, v3, v4, v5, v6, v7, if_pos b0, if_pos b1, if_pos b2, List.nil_append, List.cons_append] at hV
    have hs1 : evValsGo e (toldRF 1) (ev0 1, []) = some (⟨e.seq, 1, e.id, 0, 0, e.member, e.side, e.type, e.price, e.qty, e.peak, 0, 0⟩, [e.seq, e.id, e.member, e.side, e.type, e.price, e.qty, e.peak]) := by
      rw [hV]
      simp [withEventF, ev0, m0, f0, m1, f1, m2, f2, em, em2]
    have hI : eventOfF 1 (numsF (evFields1 e)) = ⟨e.seq, 1, e.id, 0, 0, e.member, e.side, e.type, e.price, e.qty, e.peak, 0, 0⟩ := by
      simp [evFields1, wholeF, upToF, numsF, iput, eventOfF, iget, m0, f0, m1, f1, m2, f2, em, em2]
      all_goals first | rfl | exact ⟨rfl, rfl⟩ | exact ⟨rfl, rfl, rfl⟩ | exact ⟨rfl, rfl, rfl, rfl⟩ | exact ⟨rfl, rfl, rfl, rfl, rfl⟩
    have hA : ((evFields1 e).all (·.fits)) = true := by
      simp [evFields1, wholeF, upToF, b0, b1, b2]
    by_cases hX : (⟨e.seq, 1, e.id, 0, 0, e.member, e.side, e.type, e.price, e.qty, e.peak, 0, 0⟩ : Event) = e
    · have t0 : toldEvE e = 0 := by
        rw [toldEvE, hF]
        exact if_pos ⟨hA, by rw [h1, hI]; exact hX⟩
      have r0 : refEvE e = 0 := by
        rw [hR, hs1]
        exact if_pos hX
      rw [packEvF, refPackEvF, if_pos t0, if_pos r0, hF, h1, hs1]
      have x0 : up e.seq 0 = e.seq := up_zero hw.seq
      have y0 : add64 0 e.seq = e.seq := add64_zero hw.seq
      have z0 : add64 e.seq 0 = e.seq := add64_zero' hw.seq
      have x1 : up e.id 0 = e.id := up_zero hw.id
      have y1 : add64 0 e.id = e.id := add64_zero hw.id
      have z1 : add64 e.id 0 = e.id := add64_zero' hw.id
      have x2 : up e.member 0 = e.member := up_zero (by omega)
      have y2 : add64 0 e.member = e.member := add64_zero (by omega)
      have z2 : add64 e.member 0 = e.member := add64_zero' (by omega)
      have x3 : up e.side 0 = e.side := up_zero (by omega)
      have y3 : add64 0 e.side = e.side := add64_zero (by omega)
      have z3 : add64 e.side 0 = e.side := add64_zero' (by omega)
      have x4 : up e.type 0 = e.type := up_zero (by omega)
      have y4 : add64 0 e.type = e.type := add64_zero (by omega)
      have z4 : add64 e.type 0 = e.type := add64_zero' (by omega)
      have x5 : up e.price 0 = e.price := up_zero (by omega)
      have y5 : add64 0 e.price = e.price := add64_zero (by omega)
      have z5 : add64 e.price 0 = e.price := add64_zero' (by omega)
      have x6 : up e.qty 0 = e.qty := up_zero hw.qty
      have y6 : add64 0 e.qty = e.qty := add64_zero hw.qty
      have z6 : add64 e.qty 0 = e.qty := add64_zero' hw.qty
      have x7 : up e.peak 0 = e.peak := up_zero hw.peak
      have y7 : add64 0 e.peak = e.peak := add64_zero hw.peak
      have z7 : add64 e.peak 0 = e.peak := add64_zero' hw.peak
      have zz : add64 0 0 = 0 := rfl
      simp [evFrameF, laidF, toldRF, laidGo, laidStep, evFields1, wholeF, upToF, numsF, iput, iget, up_none, add64_add0, zz, m0, f0, m1, f1, m2, f2, em, em2, x0, y0, z0, x1, y1, z1, x2, y2, z2, x3, y3, z3, x4, y4, z4, x5, y5, z5, x6, y6, z6, x7, y7, z7]
    · refine packEv_err (e := 40) (by decide) ?_ ?_
      · rw [toldEvE, hF]
        exact if_neg (fun h => hX (by rw [← hI, ← h1]; exact h.2))
      · rw [hR, hs1]
        exact if_neg hX
  · refine packEv_err (e := 40) (by decide) ?_ ?_
    · rw [toldEvE, hF]
      refine if_neg (fun h => hs ?_)
      have := h.1
      simpa [evFields1, wholeF, upToF, and_assoc] using this
    · rw [hR, hV]
      simp only [evValsGo, v0, v1, v2, v3, v4, v5, v6, v7]
      by_cases b0 : 0 ≤ e.side ∧ e.side ≤ 255
      · skip
        by_cases b1 : 0 ≤ e.type ∧ e.type ≤ 255
        · skip
          have b2 : ¬ (0 ≤ e.price ∧ e.price ≤ 4294967295) := fun b2 => hs ⟨b0, b1, b2⟩
          simp only [if_pos b0, if_pos b1, if_neg b2]
        · simp only [if_pos b0, if_neg b1]
      · simp only [if_neg b0]
theorem packEv_2 {e : Event} (hw : e.Wf) (h1 : e.kind = 2) : packEvF e = refPackEvF e := by
  have hF : evFieldsF e = some (evFields2 e) := by rw [evFieldsF, if_neg (by omega), if_pos h1]
  have hR : refEvE e = match evValsGo e (toldRF 2) (ev0 2, []) with | none => 40 | some s => if s.1 = e then 0 else 40 := by
    rw [refEvE, if_neg (by omega), h1]
    all_goals rfl
  have hm := hw.member
  have em : e.member % 18446744073709551616 = e.member := Int.emod_eq_of_lt hm.1 (by omega)
  have em2 : e.member % 4294967296 = e.member := Int.emod_eq_of_lt hm.1 (by omega)
  have v0 : ∀ s, evStepF e ⟨34, 0, 0, 0⟩ s = _ := fun s => evStep_any (n := e.seq) rfl (.inl rfl)
  have v1 : ∀ s, evStepF e ⟨11, 0, 1, 0⟩ s = _ := fun s => evStep_any (n := e.id) rfl (.inl rfl)
  have v2 : ∀ s, evStepF e ⟨41, 0, 2, 0⟩ s = _ := fun s => evStep_any (n := e.target) rfl (.inl rfl)
  have v3 : ∀ s, evStepF e ⟨103, 4294967295, 4, 32⟩ s = _ := fun s => evStep_small hw.code rfl (by decide)
  have hV : evValsGo e (toldRF 2) (ev0 2, []) = evValsGo e [⟨34, 0, 0, 0⟩, ⟨11, 0, 1, 0⟩, ⟨41, 0, 2, 0⟩, ⟨103, 4294967295, 4, 32⟩] (ev0 2, []) := rfl
  by_cases hs : (0 ≤ e.code ∧ e.code ≤ 4294967295)
  · have b0 := hs
    have m0 : e.code % 18446744073709551616 = e.code := Int.emod_eq_of_lt b0.1 (by omega)
    have f0 : s64 e.code = e.code := s64_in (by omega)
    simp only [evValsGo, v0, v1, v2, v3, if_pos b0, List.nil_append, List.cons_append] at hV
    have hs1 : evValsGo e (toldRF 2) (ev0 2, []) = some (⟨e.seq, 2, e.id, 0, e.target, 0, 0, 0, 0, 0, 0, 0, e.code⟩, [e.seq, e.id, e.target, e.code]) := by
      rw [hV]
      simp [withEventF, ev0, m0, f0, em, em2]
    have hI : eventOfF 2 (numsF (evFields2 e)) = ⟨e.seq, 2, e.id, 0, e.target, 0, 0, 0, 0, 0, 0, 0, e.code⟩ := by
      simp [evFields2, wholeF, upToF, numsF, iput, eventOfF, iget, m0, f0, em, em2]
      all_goals first | rfl | exact ⟨rfl, rfl⟩ | exact ⟨rfl, rfl, rfl⟩ | exact ⟨rfl, rfl, rfl, rfl⟩ | exact ⟨rfl, rfl, rfl, rfl, rfl⟩
    have hA : ((evFields2 e).all (·.fits)) = true := by
      simp [evFields2, wholeF, upToF, b0]
    by_cases hX : (⟨e.seq, 2, e.id, 0, e.target, 0, 0, 0, 0, 0, 0, 0, e.code⟩ : Event) = e
    · have t0 : toldEvE e = 0 := by
        rw [toldEvE, hF]
        exact if_pos ⟨hA, by rw [h1, hI]; exact hX⟩
      have r0 : refEvE e = 0 := by
        rw [hR, hs1]
        exact if_pos hX
      rw [packEvF, refPackEvF, if_pos t0, if_pos r0, hF, h1, hs1]
      have x0 : up e.seq 0 = e.seq := up_zero hw.seq
      have y0 : add64 0 e.seq = e.seq := add64_zero hw.seq
      have z0 : add64 e.seq 0 = e.seq := add64_zero' hw.seq
      have x1 : up e.id 0 = e.id := up_zero hw.id
      have y1 : add64 0 e.id = e.id := add64_zero hw.id
      have z1 : add64 e.id 0 = e.id := add64_zero' hw.id
      have x2 : up e.target 0 = e.target := up_zero hw.target
      have y2 : add64 0 e.target = e.target := add64_zero hw.target
      have z2 : add64 e.target 0 = e.target := add64_zero' hw.target
      have x3 : up e.code 0 = e.code := up_zero (by omega)
      have y3 : add64 0 e.code = e.code := add64_zero (by omega)
      have z3 : add64 e.code 0 = e.code := add64_zero' (by omega)
      have zz : add64 0 0 = 0 := rfl
      simp [evFrameF, laidF, toldRF, laidGo, laidStep, evFields2, wholeF, upToF, numsF, iput, iget, up_none, add64_add0, zz, m0, f0, em, em2, x0, y0, z0, x1, y1, z1, x2, y2, z2, x3, y3, z3]
    · refine packEv_err (e := 40) (by decide) ?_ ?_
      · rw [toldEvE, hF]
        exact if_neg (fun h => hX (by rw [← hI, ← h1]; exact h.2))
      · rw [hR, hs1]
        exact if_neg hX
  · refine packEv_err (e := 40) (by decide) ?_ ?_
    · rw [toldEvE, hF]
      refine if_neg (fun h => hs ?_)
      have := h.1
      simpa [evFields2, wholeF, upToF, and_assoc] using this
    · rw [hR, hV]
      simp only [evValsGo, v0, v1, v2, v3]
      have b0 : ¬ (0 ≤ e.code ∧ e.code ≤ 4294967295) := fun b0 => hs b0
      simp only [if_neg b0]
theorem packEv_3 {e : Event} (hw : e.Wf) (h1 : e.kind = 3) : packEvF e = refPackEvF e := by
  have hF : evFieldsF e = some (evFields3 e) := by rw [evFieldsF, if_neg (by omega), if_neg (by omega), if_pos h1]
  have hR : refEvE e = match evValsGo e (toldRF 3) (ev0 3, []) with | none => 40 | some s => if s.1 = e then 0 else 40 := by
    rw [refEvE, if_neg (by omega), h1]
    all_goals rfl
  have hm := hw.member
  have em : e.member % 18446744073709551616 = e.member := Int.emod_eq_of_lt hm.1 (by omega)
  have em2 : e.member % 4294967296 = e.member := Int.emod_eq_of_lt hm.1 (by omega)
  have v0 : ∀ s, evStepF e ⟨34, 0, 0, 0⟩ s = _ := fun s => evStep_any (n := e.seq) rfl (.inl rfl)
  have v1 : ∀ s, evStepF e ⟨11, 0, 1, 0⟩ s = _ := fun s => evStep_any (n := e.id) rfl (.inl rfl)
  have v2 : ∀ s, evStepF e ⟨37, 0, 2, 0⟩ s = _ := fun s => evStep_any (n := e.other) rfl (.inl rfl)
  have v3 : ∀ s, evStepF e ⟨54, 255, 3, 32⟩ s = _ := fun s => evStep_small hw.side rfl (by decide)
  have v4 : ∀ s, evStepF e ⟨44, 4294967295, 4, 0⟩ s = _ := fun s => evStep_small hw.price rfl (by decide)
  have v5 : ∀ s, evStepF e ⟨38, 0, 5, 0⟩ s = _ := fun s => evStep_any (n := e.qty) rfl (.inl rfl)
  have hV : evValsGo e (toldRF 3) (ev0 3, []) = evValsGo e [⟨34, 0, 0, 0⟩, ⟨11, 0, 1, 0⟩, ⟨37, 0, 2, 0⟩, ⟨54, 255, 3, 32⟩, ⟨44, 4294967295, 4, 0⟩, ⟨38, 0, 5, 0⟩] (ev0 3, []) := rfl
  by_cases hs : (0 ≤ e.side ∧ e.side ≤ 255) ∧ (0 ≤ e.price ∧ e.price ≤ 4294967295)
  · obtain ⟨b0, b1⟩ := hs
    have m0 : e.side % 18446744073709551616 = e.side := Int.emod_eq_of_lt b0.1 (by omega)
    have f0 : s64 e.side = e.side := s64_in (by omega)
    have m1 : e.price % 18446744073709551616 = e.price := Int.emod_eq_of_lt b1.1 (by omega)
    have f1 : s64 e.price = e.price := s64_in (by omega)
    simp only [evValsGo, v0, v1, v2, v3, v4, v5, if_pos b0, if_pos b1, List.nil_append, List.cons_append] at hV
    have hs1 : evValsGo e (toldRF 3) (ev0 3, []) = some (⟨e.seq, 3, e.id, e.other, 0, 0, e.side, 0, e.price, e.qty, 0, 0, 0⟩, [e.seq, e.id, e.other, e.side, e.price, e.qty]) := by
      rw [hV]
      simp [withEventF, ev0, m0, f0, m1, f1, em, em2]
    have hI : eventOfF 3 (numsF (evFields3 e)) = ⟨e.seq, 3, e.id, e.other, 0, 0, e.side, 0, e.price, e.qty, 0, 0, 0⟩ := by
      simp [evFields3, wholeF, upToF, numsF, iput, eventOfF, iget, m0, f0, m1, f1, em, em2]
      all_goals first | rfl | exact ⟨rfl, rfl⟩ | exact ⟨rfl, rfl, rfl⟩ | exact ⟨rfl, rfl, rfl, rfl⟩ | exact ⟨rfl, rfl, rfl, rfl, rfl⟩
    have hA : ((evFields3 e).all (·.fits)) = true := by
      simp [evFields3, wholeF, upToF, b0, b1]
    by_cases hX : (⟨e.seq, 3, e.id, e.other, 0, 0, e.side, 0, e.price, e.qty, 0, 0, 0⟩ : Event) = e
    · have t0 : toldEvE e = 0 := by
        rw [toldEvE, hF]
        exact if_pos ⟨hA, by rw [h1, hI]; exact hX⟩
      have r0 : refEvE e = 0 := by
        rw [hR, hs1]
        exact if_pos hX
      rw [packEvF, refPackEvF, if_pos t0, if_pos r0, hF, h1, hs1]
      have x0 : up e.seq 0 = e.seq := up_zero hw.seq
      have y0 : add64 0 e.seq = e.seq := add64_zero hw.seq
      have z0 : add64 e.seq 0 = e.seq := add64_zero' hw.seq
      have x1 : up e.id 0 = e.id := up_zero hw.id
      have y1 : add64 0 e.id = e.id := add64_zero hw.id
      have z1 : add64 e.id 0 = e.id := add64_zero' hw.id
      have x2 : up e.other 0 = e.other := up_zero hw.other
      have y2 : add64 0 e.other = e.other := add64_zero hw.other
      have z2 : add64 e.other 0 = e.other := add64_zero' hw.other
      have x3 : up e.side 0 = e.side := up_zero (by omega)
      have y3 : add64 0 e.side = e.side := add64_zero (by omega)
      have z3 : add64 e.side 0 = e.side := add64_zero' (by omega)
      have x4 : up e.price 0 = e.price := up_zero (by omega)
      have y4 : add64 0 e.price = e.price := add64_zero (by omega)
      have z4 : add64 e.price 0 = e.price := add64_zero' (by omega)
      have x5 : up e.qty 0 = e.qty := up_zero hw.qty
      have y5 : add64 0 e.qty = e.qty := add64_zero hw.qty
      have z5 : add64 e.qty 0 = e.qty := add64_zero' hw.qty
      have zz : add64 0 0 = 0 := rfl
      simp [evFrameF, laidF, toldRF, laidGo, laidStep, evFields3, wholeF, upToF, numsF, iput, iget, up_none, add64_add0, zz, m0, f0, m1, f1, em, em2, x0, y0, z0, x1, y1, z1, x2, y2, z2, x3, y3, z3, x4, y4, z4, x5, y5, z5]
    · refine packEv_err (e := 40) (by decide) ?_ ?_
      · rw [toldEvE, hF]
        exact if_neg (fun h => hX (by rw [← hI, ← h1]; exact h.2))
      · rw [hR, hs1]
        exact if_neg hX
  · refine packEv_err (e := 40) (by decide) ?_ ?_
    · rw [toldEvE, hF]
      refine if_neg (fun h => hs ?_)
      have := h.1
      simpa [evFields3, wholeF, upToF, and_assoc] using this
    · rw [hR, hV]
      simp only [evValsGo, v0, v1, v2, v3, v4, v5]
      by_cases b0 : 0 ≤ e.side ∧ e.side ≤ 255
      · skip
        have b1 : ¬ (0 ≤ e.price ∧ e.price ≤ 4294967295) := fun b1 => hs ⟨b0, b1⟩
        simp only [if_pos b0, if_neg b1]
      · simp only [if_neg b0]
theorem packEv_4 {e : Event} (hw : e.Wf) (h1 : e.kind = 4) : packEvF e = refPackEvF e := by
  have hF : evFieldsF e = some (evFields4 e) := by rw [evFieldsF, if_neg (by omega), if_neg (by omega), if_neg (by omega), if_pos h1]
  have hR : refEvE e = match evValsGo e (toldRF 4) (ev0 4, []) with | none => 40 | some s => if s.1 = e then 0 else 40 := by
    rw [refEvE, if_neg (by omega), h1]
    all_goals rfl
  have hm := hw.member
  have em : e.member % 18446744073709551616 = e.member := Int.emod_eq_of_lt hm.1 (by omega)
  have em2 : e.member % 4294967296 = e.member := Int.emod_eq_of_lt hm.1 (by omega)
  have v0 : ∀ s, evStepF e ⟨34, 0, 0, 0⟩ s = _ := fun s => evStep_any (n := e.seq) rfl (.inl rfl)
  have v1 : ∀ s, evStepF e ⟨11, 0, 1, 0⟩ s = _ := fun s => evStep_any (n := e.id) rfl (.inl rfl)
  have v2 : ∀ s, evStepF e ⟨38, 0, 5, 0⟩ s = _ := fun s => evStep_any (n := e.qty) rfl (.inl rfl)
  have v3 : ∀ s, evStepF e ⟨378, 255, 3, 48⟩ s = _ := fun s => evStep_small hw.reason rfl (by decide)
  have hV : evValsGo e (toldRF 4) (ev0 4, []) = evValsGo e [⟨34, 0, 0, 0⟩, ⟨11, 0, 1, 0⟩, ⟨38, 0, 5, 0⟩, ⟨378, 255, 3, 48⟩] (ev0 4, []) := rfl
  by_cases hs : (0 ≤ e.reason ∧ e.reason ≤ 255)
  · have b0 := hs
    have m0 : e.reason % 18446744073709551616 = e.reason := Int.emod_eq_of_lt b0.1 (by omega)
    have f0 : s64 e.reason = e.reason := s64_in (by omega)
    simp only [evValsGo, v0, v1, v2, v3, if_pos b0, List.nil_append, List.cons_append] at hV
    have hs1 : evValsGo e (toldRF 4) (ev0 4, []) = some (⟨e.seq, 4, e.id, 0, 0, 0, 0, 0, 0, e.qty, 0, e.reason, 0⟩, [e.seq, e.id, e.qty, e.reason]) := by
      rw [hV]
      simp [withEventF, ev0, m0, f0, em, em2]
    have hI : eventOfF 4 (numsF (evFields4 e)) = ⟨e.seq, 4, e.id, 0, 0, 0, 0, 0, 0, e.qty, 0, e.reason, 0⟩ := by
      simp [evFields4, wholeF, upToF, numsF, iput, eventOfF, iget, m0, f0, em, em2]
      all_goals first | rfl | exact ⟨rfl, rfl⟩ | exact ⟨rfl, rfl, rfl⟩ | exact ⟨rfl, rfl, rfl, rfl⟩ | exact ⟨rfl, rfl, rfl, rfl, rfl⟩
    have hA : ((evFields4 e).all (·.fits)) = true := by
      simp [evFields4, wholeF, upToF, b0]
    by_cases hX : (⟨e.seq, 4, e.id, 0, 0, 0, 0, 0, 0, e.qty, 0, e.reason, 0⟩ : Event) = e
    · have t0 : toldEvE e = 0 := by
        rw [toldEvE, hF]
        exact if_pos ⟨hA, by rw [h1, hI]; exact hX⟩
      have r0 : refEvE e = 0 := by
        rw [hR, hs1]
        exact if_pos hX
      rw [packEvF, refPackEvF, if_pos t0, if_pos r0, hF, h1, hs1]
      have x0 : up e.seq 0 = e.seq := up_zero hw.seq
      have y0 : add64 0 e.seq = e.seq := add64_zero hw.seq
      have z0 : add64 e.seq 0 = e.seq := add64_zero' hw.seq
      have x1 : up e.id 0 = e.id := up_zero hw.id
      have y1 : add64 0 e.id = e.id := add64_zero hw.id
      have z1 : add64 e.id 0 = e.id := add64_zero' hw.id
      have x2 : up e.qty 0 = e.qty := up_zero hw.qty
      have y2 : add64 0 e.qty = e.qty := add64_zero hw.qty
      have z2 : add64 e.qty 0 = e.qty := add64_zero' hw.qty
      have x3 : up e.reason 0 = e.reason := up_zero (by omega)
      have y3 : add64 0 e.reason = e.reason := add64_zero (by omega)
      have z3 : add64 e.reason 0 = e.reason := add64_zero' (by omega)
      have zz : add64 0 0 = 0 := rfl
      simp [evFrameF, laidF, toldRF, laidGo, laidStep, evFields4, wholeF, upToF, numsF, iput, iget, up_none, add64_add0, zz, m0, f0, em, em2, x0, y0, z0, x1, y1, z1, x2, y2, z2, x3, y3, z3]
    · refine packEv_err (e := 40) (by decide) ?_ ?_
      · rw [toldEvE, hF]
        exact if_neg (fun h => hX (by rw [← hI, ← h1]; exact h.2))
      · rw [hR, hs1]
        exact if_neg hX
  · refine packEv_err (e := 40) (by decide) ?_ ?_
    · rw [toldEvE, hF]
      refine if_neg (fun h => hs ?_)
      have := h.1
      simpa [evFields4, wholeF, upToF, and_assoc] using this
    · rw [hR, hV]
      simp only [evValsGo, v0, v1, v2, v3]
      have b0 : ¬ (0 ≤ e.reason ∧ e.reason ≤ 255) := fun b0 => hs b0
      simp only [if_neg b0]
theorem packEv_5 {e : Event} (hw : e.Wf) (h1 : e.kind = 5) : packEvF e = refPackEvF e := by
  have hF : evFieldsF e = some (evFields5 e) := by rw [evFieldsF, if_neg (by omega), if_neg (by omega), if_neg (by omega), if_neg (by omega), if_pos h1]
  have hR : refEvE e = match evValsGo e (toldRF 5) (ev0 5, []) with | none => 40 | some s => if s.1 = e then 0 else 40 := by
    rw [refEvE, if_neg (by omega), h1]
    all_goals rfl
  have hm := hw.member
  have em : e.member % 18446744073709551616 = e.member := Int.emod_eq_of_lt hm.1 (by omega)
  have em2 : e.member % 4294967296 = e.member := Int.emod_eq_of_lt hm.1 (by omega)
  have v0 : ∀ s, evStepF e ⟨34, 0, 0, 0⟩ s = _ := fun s => evStep_any (n := e.seq) rfl (.inl rfl)
  have v1 : ∀ s, evStepF e ⟨11, 0, 1, 0⟩ s = _ := fun s => evStep_any (n := e.id) rfl (.inl rfl)
  have v2 : ∀ s, evStepF e ⟨44, 4294967295, 4, 0⟩ s = _ := fun s => evStep_small hw.price rfl (by decide)
  have v3 : ∀ s, evStepF e ⟨38, 0, 5, 0⟩ s = _ := fun s => evStep_any (n := e.qty) rfl (.inl rfl)
  have hV : evValsGo e (toldRF 5) (ev0 5, []) = evValsGo e [⟨34, 0, 0, 0⟩, ⟨11, 0, 1, 0⟩, ⟨44, 4294967295, 4, 0⟩, ⟨38, 0, 5, 0⟩] (ev0 5, []) := rfl
  by_cases hs : (0 ≤ e.price ∧ e.price ≤ 4294967295)
  · have b0 := hs
    have m0 : e.price % 18446744073709551616 = e.price := Int.emod_eq_of_lt b0.1 (by omega)
    have f0 : s64 e.price = e.price := s64_in (by omega)
    simp only [evValsGo, v0, v1, v2, v3, if_pos b0, List.nil_append, List.cons_append] at hV
    have hs1 : evValsGo e (toldRF 5) (ev0 5, []) = some (⟨e.seq, 5, e.id, 0, 0, 0, 0, 0, e.price, e.qty, 0, 0, 0⟩, [e.seq, e.id, e.price, e.qty]) := by
      rw [hV]
      simp [withEventF, ev0, m0, f0, em, em2]
    have hI : eventOfF 5 (numsF (evFields5 e)) = ⟨e.seq, 5, e.id, 0, 0, 0, 0, 0, e.price, e.qty, 0, 0, 0⟩ := by
      simp [evFields5, wholeF, upToF, numsF, iput, eventOfF, iget, m0, f0, em, em2]
      all_goals first | rfl | exact ⟨rfl, rfl⟩ | exact ⟨rfl, rfl, rfl⟩ | exact ⟨rfl, rfl, rfl, rfl⟩ | exact ⟨rfl, rfl, rfl, rfl, rfl⟩
    have hA : ((evFields5 e).all (·.fits)) = true := by
      simp [evFields5, wholeF, upToF, b0]
    by_cases hX : (⟨e.seq, 5, e.id, 0, 0, 0, 0, 0, e.price, e.qty, 0, 0, 0⟩ : Event) = e
    · have t0 : toldEvE e = 0 := by
        rw [toldEvE, hF]
        exact if_pos ⟨hA, by rw [h1, hI]; exact hX⟩
      have r0 : refEvE e = 0 := by
        rw [hR, hs1]
        exact if_pos hX
      rw [packEvF, refPackEvF, if_pos t0, if_pos r0, hF, h1, hs1]
      have x0 : up e.seq 0 = e.seq := up_zero hw.seq
      have y0 : add64 0 e.seq = e.seq := add64_zero hw.seq
      have z0 : add64 e.seq 0 = e.seq := add64_zero' hw.seq
      have x1 : up e.id 0 = e.id := up_zero hw.id
      have y1 : add64 0 e.id = e.id := add64_zero hw.id
      have z1 : add64 e.id 0 = e.id := add64_zero' hw.id
      have x2 : up e.price 0 = e.price := up_zero (by omega)
      have y2 : add64 0 e.price = e.price := add64_zero (by omega)
      have z2 : add64 e.price 0 = e.price := add64_zero' (by omega)
      have x3 : up e.qty 0 = e.qty := up_zero hw.qty
      have y3 : add64 0 e.qty = e.qty := add64_zero hw.qty
      have z3 : add64 e.qty 0 = e.qty := add64_zero' hw.qty
      have zz : add64 0 0 = 0 := rfl
      simp [evFrameF, laidF, toldRF, laidGo, laidStep, evFields5, wholeF, upToF, numsF, iput, iget, up_none, add64_add0, zz, m0, f0, em, em2, x0, y0, z0, x1, y1, z1, x2, y2, z2, x3, y3, z3]
    · refine packEv_err (e := 40) (by decide) ?_ ?_
      · rw [toldEvE, hF]
        exact if_neg (fun h => hX (by rw [← hI, ← h1]; exact h.2))
      · rw [hR, hs1]
        exact if_neg hX
  · refine packEv_err (e := 40) (by decide) ?_ ?_
    · rw [toldEvE, hF]
      refine if_neg (fun h => hs ?_)
      have := h.1
      simpa [evFields5, wholeF, upToF, and_assoc] using this
    · rw [hR, hV]
      simp only [evValsGo, v0, v1, v2, v3]
      have b0 : ¬ (0 ≤ e.price ∧ e.price ≤ 4294967295) := fun b0 => hs b0
      simp only [if_neg b0]
theorem packEv_none {e : Event} (h : ¬ (1 ≤ e.kind ∧ e.kind ≤ 5)) : packEvF e = refPackEvF e := by
  have hF : evFieldsF e = none := by rw [evFieldsF, if_neg (by omega), if_neg (by omega), if_neg (by omega), if_neg (by omega), if_neg (by omega)]
  refine packEv_err (e := 41) (by decide) ?_ ?_
  · rw [toldEvE, hF]
  · exact if_pos h
theorem packEv_eq {e : Event} (hw : e.Wf) : packEvF e = refPackEvF e := by
  by_cases h : 1 ≤ e.kind ∧ e.kind ≤ 5
  · have : e.kind = 1 ∨ e.kind = 2 ∨ e.kind = 3 ∨ e.kind = 4 ∨ e.kind = 5 := by omega
    rcases this with h | h | h | h | h
    · exact packEv_1 hw h
    · exact packEv_2 hw h
    · exact packEv_3 hw h
    · exact packEv_4 hw h
    · exact packEv_5 hw h
  · exact packEv_none h
end Go.Rx
namespace Go.Rx
open Go Go.RowKit
set_option linter.unusedVariables false
set_option linter.unusedSimpArgs false
def andU (a b : Int) : Int := IntKind.u64.wrap ((BitVec.ofInt IntKind.u64.bits a &&& BitVec.ofInt IntKind.u64.bits b).toNat : Nat)
def down (a n : Int) : Int := a / 2 ^ (min n.toNat IntKind.u64.bits)
def someF (fs : List Fld) (m : List (Int × Int)) : List (Int × Int) := fs.foldl (fun r f => iput r f.tag (iget m f.tag)) []
theorem someF_snoc (fs : List Fld) (m : List (Int × Int)) (i : Nat) (h : i < fs.length) : someF (fs.take (i + 1)) m = iput (someF (fs.take i) m) fs[i]!.tag (iget m fs[i]!.tag) := by
  have : fs.take (i + 1) = fs.take i ++ [fs[i]!] := by
    rw [List.take_succ_eq_append_getElem h, getElem!_pos fs i h]
  rw [this]
  unfold someF
  rw [List.foldl_append]
  rfl
def MapPost (m : List (Int × Int)) (u : Value) (N : List Chunk) : Prop := ∃ b, u = .map (some b) ∧ N = [.mi b .i64 .u64 m]
set_option maxHeartbeats 1000000 in
theorem msgSome {w : World} {v vm : Value} {fs : List Fld} {m : List (Int × Int)} (hs : RSl Fld.enc 3 w [] v fs) (hm : RMp .i64 .u64 w [] vm m) : Spec Go.Proofs.Tryd.prog 61 #[v, vm] w [] (MapPost (someF fs m)) := by
  have hsm := hs.small
  refine Spec.enter (fn := Go.Proofs.Tryd.f61) (n := 24) [v, vm] Go.Proofs.Tryd.func61 (by kernel_rfl) rfl Go.Proofs.Tryd.ntmps61 Go.Proofs.Tryd.results61 rfl (Own.nil _) ?_
  refine JC.rs ?_
  refine Seq.p rfl Ev.assign ?_
  refine Seq.nil ?_
  refine JC.rs ?_
  refine Seq.mkMapI .i64 .u64 (k := ?_); intro b8
  refine Seq.p rfl Ev.assign ?_
  refine Seq.nil ?_
  refine JC.seq ?_
  refine JC.rs ?_
  refine Seq.p rfl Ev.move ?_
  refine Seq.p rfl (Ev.lenSl sl.sl_message_field (hr := hs.r)) ?_
  refine Seq.p rfl Ev.move ?_
  refine Seq.nil ?_
  refine JC.blk ?_
  refine JC.loop (α := Nat) (I := fun i e1 H1 => Has [7, 11, 12, 13, 14, 15, 16, 17, 18, 19, 20, 21, 22] [(11, .int .i64 (i : Int))] _ e1 ∧ H1 = [.mi b8 .i64 .u64 (someF (fs.take i) m)] ∧ i ≤ fs.length) (μ := fun i => fs.length - i) 0 ⟨Has.mk Off.refl (allLook_cons (by repeat (first | exact Look.here | apply Look.there (hne := rfl) | exact Look.const | apply Look.mix rfl | exact Look.arg0 | apply Look.args | exact Look.func)) allLook_nil), rfl, by omega⟩ ?_
  rintro i _ _ ⟨⟨ui, rfl⟩, rfl, hi⟩; dsimp only [setL]
  refine JC.rs ?_
  refine Seq.p rfl Ev.lt ?_
  refine Seq.nil ?_
  refine JC.seq ?_
  first | refine JC.c (ht := fun c12 => ?_) (hf := fun c12 => ?_) | refine JC.cb (ht := fun c12 => ?_) (hf := fun c12 => ?_)
  · -- then_t12
    have hi2 : i < fs.length := by omega
    refine JC.skip ?_
    refine JC.seq ?_
    refine JC.blk ?_
    refine JC.rs ?_
    refine Seq.p rfl (Ev.iaN sl.sl_message_field (hr := hs.r)) ?_
    refine Seq.p rfl (Ev.ldEA ag.message_field (hr := hs.r)) ?_
    refine Seq.alloc (cs := [_, _, _]) (hz := z.message_field) (k := ?_); intro b7
    refine Seq.storeN [_, _, _] sz.message_field (k := ?_)
    refine Seq.nil ?_
    refine JC.reg ?_
    refine Seq.p rfl Ev.move ?_
    refine Seq.p rfl (Ev.faB fd.message_field_0) ?_
    refine Seq.p rfl (Ev.ldB sc.int) ?_
    refine Seq.p rfl Ev.move ?_
    refine Seq.p rfl (Ev.faB fd.message_field_0) ?_
    refine Seq.p rfl (Ev.ldB sc.int) ?_
    refine Seq.p rfl (Ev.mapI mp.m_int_uint64 z.uint64 hm.r) ?_
    refine Seq.mapPutI mp.m_int_uint64 (kk' := ?_)
    refine Seq.nil ?_
    refine JC.reg ?_
    refine Seq.p rfl (by first | exact Ev.inc | exact Ev.add) ?_
    refine Seq.p rfl Ev.move ?_
    refine Seq.nil ?_
    exact ⟨i + 1, _, Part.skip (Part.refl _), ⟨Has.mk (by repeat (first | refine Off.upd ?_ rfl | exact Off.mix | refine Off.mix2 ?_ rfl | exact Off.refl)) (allLook_cons (by repeat (first | exact Look.here | apply Look.there (hne := rfl) | exact Look.const | apply Look.mix rfl | exact Look.arg0 | apply Look.args | exact Look.func)) allLook_nil), by rw [someF_snoc fs m i hi2]; rfl, by omega⟩, by omega⟩
  · -- else_t12
    obtain rfl : i = fs.length := by omega
    refine JC.exit ?_ -- 0
    refine JC.rs ?_
    refine Seq.p rfl Ev.move ?_
    refine Seq.p rfl Ev.assign ?_
    refine Seq.nil ?_
    refine JC.ret ?_
    -- return 0
    show retQ _ _ _ _ _ _ _ _
    refine ret1 (hp := Part.refl _) (hpost := ?_)
    exact ⟨b8, rfl, by rw [List.take_length]⟩
def blankFs (k : Int) : List Fld := match fieldsF (inputF k []) with | some (_, _, fs) => fs | none => []
theorem blank_some {k : Int} (hk : 1 ≤ k ∧ k ≤ 4) : ∃ a s, fieldsF (inputF k []) = some (a, s, blankFs k) := by
  have : k = 1 ∨ k = 2 ∨ k = 3 ∨ k = 4 := by omega
  rcases this with rfl | rfl | rfl | rfl <;> exact ⟨_, _, rfl⟩
set_option maxHeartbeats 1000000 in
theorem msgOnly {w : World} {k : Int} {vm : Value} {m : List (Int × Int)} (hk : 1 ≤ k ∧ k ≤ 4) (hm : RMp .i64 .u64 w [] vm m) : Spec Go.Proofs.Tryd.prog 33 #[.int .u8 k, vm] w [] (MapPost (someF (blankFs k) m)) := by
  obtain ⟨a, s, hF⟩ := blank_some hk
  have hsm := fieldsF_small hF
  generalize blankFs k = fs at hF hsm
  refine Spec.enter (fn := Go.Proofs.Tryd.f33) (n := 22) [.int .u8 k, vm] Go.Proofs.Tryd.func33 (by kernel_rfl) rfl Go.Proofs.Tryd.ntmps33 Go.Proofs.Tryd.results33 rfl (Own.nil _) ?_
  refine JC.rs ?_
  refine Seq.p rfl Ev.assign ?_
  refine Seq.nil ?_
  refine JC.rs ?_
  refine Seq.p rfl Ev.move ?_
  refine Seq.callP rfl (fun w hw => msgInputOf (RMp.nil _ _ _ _)) ?_
  refine Seq.alloc (cs := [_, _, _, _, _, _, _, _, _, _, _]) (hz := z.api_Input) (k := ?_); intro b5
  refine Seq.storeN [_, _, _, _, _, _, _, _, _, _, _] sz.api_Input (k := ?_)
  refine Seq.nil ?_
  refine JC.rs ?_
  refine Seq.p rfl (Ev.ldBA ag.api_Input) ?_
  refine Seq.call rfl (fun w hw => hF ▸ msgFieldsOf) (F := _) (by exact List.Perm.refl _) ?_
  rintro _ _ ⟨bf, rfl, rfl⟩
  refine Seq.p rfl Ev.move ?_
  refine Seq.p rfl Ev.extract ?_
  refine Seq.p rfl Ev.extract ?_
  refine Seq.p rfl Ev.extract ?_
  refine Seq.p rfl Ev.extract ?_
  refine Seq.p rfl Ev.assign ?_
  refine Seq.p rfl Ev.assign ?_
  refine Seq.p rfl Ev.assign ?_
  refine Seq.p rfl Ev.assign ?_
  refine Seq.nil ?_
  refine JC.rs ?_
  refine Seq.p rfl Ev.move ?_
  refine Seq.p rfl Ev.move ?_
  refine Seq.call rfl (fun w hw => msgSome (RAt.up (RAt.box (enc := Fld.enc) (hs := by omega)) hw) (hm.up hw)) (F := _) (by exact List.Perm.refl _) ?_
  rintro _ _ ⟨bm, rfl, rfl⟩
  refine Seq.p rfl Ev.assign ?_
  refine Seq.nil ?_
  refine JC.ret ?_
  -- return 0
  show retQ _ _ _ _ _ _ _ _
  refine ret1 (hp := Part.here (Part.nil _)) (hpost := ?_)
  exact ⟨bm, rfl, rfl⟩
def wordsM (ws : List Int) : List (Int × Int) :=
  [(11, ws[0]!), (9001, ws[0]!), (41, ws[1]!), (1, andU ws[2]! 4294967295), (54, andU (down ws[2]! 32) 255), (40, andU (down ws[2]! 40) 255), (44, andU ws[3]! 4294967295), (38, ws[4]!), (210, ws[5]!)]
def frV (k g0 g1 g2 g3 g4 g5 g6 : Int) : List Value := [.int .u8 k, .int .u64 g0, .int .u64 g1, .int .u64 g2, .int .u64 g3, .int .u64 g4, .int .u64 g5, .int .u64 g6]
def input0 : Input := ⟨0, 0, 0, 0, 0, 0, 0, 0, 0, 0, 0⟩
def unpackI (f : Frame) : Input := inputF f.kind (someF (blankFs f.kind) (wordsM f.words))
def unpackF (f : Frame) : Input × Int := if f.kind < 1 ∨ 4 < f.kind then (input0, 41) else if (packF (unpackI f)).2 = 0 ∧ (packF (unpackI f)).1 = f then (unpackI f, 0) else (input0, 40)
def unpackV (p : Input × Int) : Value := .tuple #[.agg p.1.enc.toArray, .int .i64 p.2]
theorem Frame.eqL_enc (k k' : Int) (a0 a1 a2 a3 a4 a5 a6 g0 g1 g2 g3 g4 g5 g6 : Int) : eqL (Frame.enc ⟨k, [a0, a1, a2, a3, a4, a5, a6]⟩) (Frame.enc ⟨k', [g0, g1, g2, g3, g4, g5, g6]⟩) = decide ((⟨k, [a0, a1, a2, a3, a4, a5, a6]⟩ : Frame) = ⟨k', [g0, g1, g2, g3, g4, g5, g6]⟩) := by
  simp [Frame.enc, eqL, eqV, Bool.decide_and]
theorem msgUnpackInput {w : World} {k : Int} {bs : List Int} {vm : Value} (hm : RMp .i64 .u64 w [] vm (someF (blankFs k) (wordsM bs))) : Spec Go.Proofs.Tryd.prog 32 #[.int .u8 k, vm] w [] (fun u _ => u = .agg (unpackI ⟨k, bs⟩).enc.toArray) := msgInputOf hm
set_option maxHeartbeats 4000000 in
set_option maxRecDepth 100000 in
theorem msgUnpack {w : World} {k g0 g1 g2 g3 g4 g5 g6 : Int} : Spec Go.Proofs.Tryd.prog 14 #[.agg (frV k g0 g1 g2 g3 g4 g5 g6).toArray] w [] (fun u _ => u = unpackV (unpackF ⟨k, [g0, g1, g2, g3, g4, g5, g6]⟩)) := by
  generalize hx : unpackI ⟨k, [g0, g1, g2, g3, g4, g5, g6]⟩ = x
  obtain ⟨a0, a1, a2, a3, a4, a5, a6, h7⟩ := list7 (packF_len x)
  have hP : packF x = (⟨(packF x).1.kind, [a0, a1, a2, a3, a4, a5, a6]⟩, (packF x).2) := by rw [← h7]
  generalize hkk : (packF x).1.kind = kk at hP
  generalize hee : (packF x).2 = ee at hP
  refine Spec.enter (fn := Go.Proofs.Tryd.f14) (n := 67) [.agg (frV k g0 g1 g2 g3 g4 g5 g6).toArray] Go.Proofs.Tryd.func14 (by kernel_rfl) rfl Go.Proofs.Tryd.ntmps14 Go.Proofs.Tryd.results14 rfl (Own.nil _) ?_
  refine JC.rs ?_
  refine Seq.box (cs := [_, _, _, _, _, _, _, _]) (k := ?_); intro b1
  refine Seq.alloc (cs := [_, _, _, _, _, _, _, _, _, _, _]) (hz := z.api_Input) (k := ?_); intro b2
  refine Seq.p rfl Ev.assign ?_
  refine Seq.nil ?_
  refine JC.seq ?_
  refine JC.rs ?_
  refine Seq.p rfl (Ev.faB fd.api_Frame_0) ?_
  refine Seq.p rfl (Ev.ldB sc.uint8) ?_
  refine Seq.p rfl Ev.lt ?_
  refine Seq.p rfl Ev.move ?_
  refine Seq.split (d := 12) (k := ?_)
  rintro (_|_) h12
  · try simp only [decide_eq_true_eq, decide_eq_false_iff_not] at h12
    refine Seq.gy rfl rfl rfl ?_
    refine Seq.p rfl (Ev.faB fd.api_Frame_0) ?_
    refine Seq.gy rfl rfl rfl ?_
    refine Seq.p rfl (Ev.ldB sc.uint8) ?_
    refine Seq.gy rfl rfl rfl ?_
    refine Seq.p rfl Ev.gt ?_
    refine Seq.p rfl Ev.pickF ?_
    refine Seq.nil ?_
    first | refine JC.c (ht := fun c16 => ?_) (hf := fun c16 => ?_) | refine JC.cb (ht := fun c16 => ?_) (hf := fun c16 => ?_)
    · -- then_t16
      refine JC.rs ?_
      refine Seq.p rfl (Ev.buildN [_, _, _, _, _, _, _, _, _, _, _] pl.api_Input z.api_Input) ?_
      refine Seq.storeN [_, _, _, _, _, _, _, _, _, _, _] sz.api_Input (k := ?_)
      refine Seq.p rfl Ev.assign ?_
      refine Seq.nil ?_
      refine JC.ret ?_
      -- return 0
      show retQ _ _ _ _ _ _ _ _
      refine retB2 ag.api_Input (hp := Part.nil _) (hpost := ?_)
      rw [unpackF, if_pos (Or.inr c16)]
      rfl
    · -- else_t16
      have hng : ¬ (k < 1 ∨ 4 < k) := by omega
      refine JC.skip ?_
      refine JC.rs ?_
      refine Seq.p rfl (Ev.faB fd.api_Frame_1) ?_
      refine Seq.p rfl (Ev.ldBPN [_, _, _, _, _, _, _] ag.a7_uint64) ?_
      refine Seq.alloc (cs := [_, _, _, _, _, _, _]) (hz := z.a7_uint64) (k := ?_); intro b4
      refine Seq.storeN [_, _, _, _, _, _, _] sz.a7_uint64 (k := ?_)
      refine Seq.nil ?_
      refine JC.rs ?_
      refine Seq.mkMapI .i64 .u64 (k := ?_); intro b20
      refine Seq.p rfl (Ev.iaArrB ar.a7_uint64) ?_
      refine Seq.p rfl (Ev.ldB sc.uint64) ?_
      refine Seq.mapInsI mp.m_int_uint64 (kk' := ?_)
      refine Seq.p rfl (Ev.iaArrB ar.a7_uint64) ?_
      refine Seq.p rfl (Ev.ldB sc.uint64) ?_
      refine Seq.mapInsI mp.m_int_uint64 (kk' := ?_)
      refine Seq.p rfl (Ev.iaArrB ar.a7_uint64) ?_
      refine Seq.p rfl (Ev.ldB sc.uint64) ?_
      refine Seq.mapInsI mp.m_int_uint64 (kk' := ?_)
      refine Seq.p rfl (Ev.iaArrB ar.a7_uint64) ?_
      refine Seq.p rfl (Ev.ldB sc.uint64) ?_
      refine Seq.p rfl (Ev.bits (k := .u64) (· &&& ·) (.inl ⟨rfl, rfl⟩)) ?_
      refine Seq.mapInsI mp.m_int_uint64 (kk' := ?_)
      refine Seq.p rfl (Ev.iaArrB ar.a7_uint64) ?_
      refine Seq.p rfl (Ev.ldB sc.uint64) ?_
      refine Seq.p rfl Ev.shrW ?_
      refine Seq.p rfl (Ev.bits (k := .u64) (· &&& ·) (.inl ⟨rfl, rfl⟩)) ?_
      refine Seq.mapInsI mp.m_int_uint64 (kk' := ?_)
      refine Seq.p rfl (Ev.iaArrB ar.a7_uint64) ?_
      refine Seq.p rfl (Ev.ldB sc.uint64) ?_
      refine Seq.p rfl Ev.shrW ?_
      refine Seq.p rfl (Ev.bits (k := .u64) (· &&& ·) (.inl ⟨rfl, rfl⟩)) ?_
      refine Seq.mapInsI mp.m_int_uint64 (kk' := ?_)
      refine Seq.p rfl (Ev.iaArrB ar.a7_uint64) ?_
      refine Seq.p rfl (Ev.ldB sc.uint64) ?_
      refine Seq.p rfl (Ev.bits (k := .u64) (· &&& ·) (.inl ⟨rfl, rfl⟩)) ?_
      refine Seq.mapInsI mp.m_int_uint64 (kk' := ?_)
      refine Seq.p rfl (Ev.iaArrB ar.a7_uint64) ?_
      refine Seq.p rfl (Ev.ldB sc.uint64) ?_
      refine Seq.mapInsI mp.m_int_uint64 (kk' := ?_)
      refine Seq.p rfl (Ev.iaArrB ar.a7_uint64) ?_
      refine Seq.p rfl (Ev.ldB sc.uint64) ?_
      refine Seq.mapInsI mp.m_int_uint64 (kk' := ?_)
      refine Seq.p rfl Ev.move ?_
      refine Seq.p rfl Ev.assign ?_
      refine Seq.nil ?_
      refine JC.as mixed ?_
      refine Any.p 0 rfl (by kernel_rfl) (by kernel_rfl) (by kernel_rfl) rfl (Ev.faB fd.api_Frame_0) ?_
      refine Any.p 1 rfl (by kernel_rfl) (by kernel_rfl) (by kernel_rfl) rfl (Ev.ldB sc.uint8) ?_
      refine Any.p 2 rfl (by kernel_rfl) (by kernel_rfl) (by kernel_rfl) rfl (Ev.faB fd.api_Frame_0) ?_
      refine Any.p 3 rfl (by kernel_rfl) (by kernel_rfl) (by kernel_rfl) rfl (Ev.ldB sc.uint8) ?_
      refine Any.p 4 rfl (by kernel_rfl) (by kernel_rfl) (by kernel_rfl) rfl Ev.move ?_
      refine Any.two 5 7 rfl rfl (by kernel_rfl) ?_ ?_
      · -- first 5
        refine Seq.call rfl (fun w hw => msgOnly (m := wordsM [g0, g1, g2, g3, g4, g5, g6]) (by omega) (RM.up RM.own hw)) (F := _) (by exact List.Perm.refl _) ?_
        rintro _ _ ⟨bm, rfl, rfl⟩
        refine Seq.nil ⟨(by repeat (first | exact Part.refl _ | exact Part.nil _ | apply Part.here | apply Part.skip)), ?_⟩
        refine Any.two 6 7 rfl rfl (by kernel_rfl) ?_ ?_
        · -- first 6
          refine Seq.callP rfl (fun w hw => hx ▸ msgUnpackInput (bs := [g0, g1, g2, g3, g4, g5, g6]) (RM.up RM.own hw)) ?_
          refine Seq.nil ⟨(by repeat (first | exact Part.refl _ | exact Part.nil _ | apply Part.here | apply Part.skip)), ?_⟩
          refine Any.one 7 rfl (by kernel_rfl) ?_
          refine Seq.alloc (cs := [_, _, _, _, _, _, _, _, _, _, _]) (hz := z.api_Input) (k := ?_); intro b6
          refine Seq.nil ⟨(by repeat (first | exact Part.refl _ | exact Part.nil _ | apply Part.here | apply Part.skip)), ?_⟩
          refine Any.one 8 rfl (by kernel_rfl) ?_
          refine Seq.storeN [_, _, _, _, _, _, _, _, _, _, _] sz.api_Input (k := ?_)
          refine Seq.nil ⟨(by repeat (first | exact Part.refl _ | exact Part.nil _ | apply Part.here | apply Part.skip)), ?_⟩
          refine Any.done (by kernel_rfl) ?_
          refine JC.seq ?_
          refine JC.rs ?_
          refine Seq.p rfl (Ev.ldBA ag.api_Input) ?_
          refine Seq.callP rfl (fun w hw => hP ▸ msgPack) ?_
          refine Seq.p rfl Ev.move ?_
          refine Seq.p rfl Ev.extract ?_
          refine Seq.p rfl Ev.extract ?_
          refine Seq.alloc (cs := [_, _, _, _, _, _, _, _]) (hz := z.api_Frame) (k := ?_); intro b7
          refine Seq.storeN [_, _, _, _, _, _, _, _] sz.api_Frame (k := ?_)
          refine Seq.p rfl Ev.assign ?_
          refine Seq.nil ?_
          refine JC.rs ?_
          refine Seq.p rfl Ev.move ?_
          refine Seq.p rfl Ev.ne ?_
          refine Seq.p rfl Ev.move ?_
          refine Seq.split (d := 60) (k := ?_)
          rintro (_|_) h60
          · try simp only [decide_eq_true_eq, decide_eq_false_iff_not] at h60
            refine Seq.gy rfl rfl rfl ?_
            refine Seq.p rfl (Ev.ldBA ag.api_Frame) ?_
            refine Seq.gy rfl rfl rfl ?_
            refine Seq.p rfl (Ev.ldBA ag.api_Frame) ?_
            refine Seq.gy rfl rfl rfl ?_
            refine Seq.p rfl (Ev.neAg so.api_Frame ag.api_Frame gd.api_Frame) ?_
            refine Seq.p rfl Ev.pickF ?_
            refine Seq.nil ?_
            first | refine JC.c (ht := fun c64 => ?_) (hf := fun c64 => ?_) | refine JC.cb (ht := fun c64 => ?_) (hf := fun c64 => ?_)
            · -- then_t64
              refine JC.rs ?_
              refine Seq.p rfl (Ev.buildN [_, _, _, _, _, _, _, _, _, _, _] pl.api_Input z.api_Input) ?_
              refine Seq.storeN [_, _, _, _, _, _, _, _, _, _, _] sz.api_Input (k := ?_)
              refine Seq.p rfl Ev.assign ?_
              refine Seq.nil ?_
              refine JC.ret ?_
              -- return 1
              show retQ _ _ _ _ _ _ _ _
              refine retB2 ag.api_Input (hp := Part.nil _) (hpost := ?_)
              have c65 : (!eqL (Frame.enc ⟨kk, [a0, a1, a2, a3, a4, a5, a6]⟩) (Frame.enc ⟨k, [g0, g1, g2, g3, g4, g5, g6]⟩)) = true := c64
              rw [Frame.eqL_enc] at c65
              have hne : ¬ ((⟨kk, [a0, a1, a2, a3, a4, a5, a6]⟩ : Frame) = ⟨k, [g0, g1, g2, g3, g4, g5, g6]⟩) := by intro he; rw [decide_eq_true he] at c65; cases c65
              rw [unpackF, if_neg hng, hx, hP, if_neg (fun h => hne h.2)]
              rfl
            · -- else_t64
              refine JC.skip ?_
              refine JC.rs ?_
              refine Seq.p rfl (Ev.ldBA ag.api_Input) ?_
              refine Seq.storeN [_, _, _, _, _, _, _, _, _, _, _] sz.api_Input (k := ?_)
              refine Seq.p rfl Ev.assign ?_
              refine Seq.nil ?_
              refine JC.ret ?_
              -- return 2
              show retQ _ _ _ _ _ _ _ _
              refine retB2 ag.api_Input (hp := Part.nil _) (hpost := ?_)
              have c65 : (!eqL (Frame.enc ⟨kk, [a0, a1, a2, a3, a4, a5, a6]⟩) (Frame.enc ⟨k, [g0, g1, g2, g3, g4, g5, g6]⟩)) = false := c64
              rw [Frame.eqL_enc] at c65
              have heq : ((⟨kk, [a0, a1, a2, a3, a4, a5, a6]⟩ : Frame) = ⟨k, [g0, g1, g2, g3, g4, g5, g6]⟩) := of_ndec c65
              rw [unpackF, if_neg hng, hx, hP, if_pos ⟨Classical.not_not.1 h60, heq⟩]
              rfl
          · try simp only [decide_eq_true_eq, decide_eq_false_iff_not] at h60
            refine Seq.gn rfl rfl rfl rfl ?_
            refine Seq.gn rfl rfl rfl rfl ?_
            refine Seq.gn rfl rfl rfl rfl ?_
            refine Seq.p rfl Ev.pickT ?_
            refine Seq.nil ?_
            refine JC.cT (h := ?_)
            refine JC.rs ?_
            refine Seq.p rfl (Ev.buildN [_, _, _, _, _, _, _, _, _, _, _] pl.api_Input z.api_Input) ?_
            refine Seq.storeN [_, _, _, _, _, _, _, _, _, _, _] sz.api_Input (k := ?_)
            refine Seq.p rfl Ev.assign ?_
            refine Seq.nil ?_
            refine JC.ret ?_
            -- return 3
            show retQ _ _ _ _ _ _ _ _
            refine retB2 ag.api_Input (hp := Part.nil _) (hpost := ?_)
            rw [unpackF, if_neg hng, hx, hP, if_neg (fun h => h60 h.1)]
            rfl
        · -- first 7
          refine Seq.alloc (cs := [_, _, _, _, _, _, _, _, _, _, _]) (hz := z.api_Input) (k := ?_); intro b6
          refine Seq.nil ⟨(by repeat (first | exact Part.refl _ | exact Part.nil _ | apply Part.here | apply Part.skip)), ?_⟩
          refine Any.one 6 rfl (by kernel_rfl) ?_
          refine Seq.callP rfl (fun w hw => hx ▸ msgUnpackInput (bs := [g0, g1, g2, g3, g4, g5, g6]) (RM.up RM.own hw)) ?_
          refine Seq.nil ⟨(by repeat (first | exact Part.refl _ | exact Part.nil _ | apply Part.here | apply Part.skip)), ?_⟩
          refine Any.one 8 rfl (by kernel_rfl) ?_
          refine Seq.storeN [_, _, _, _, _, _, _, _, _, _, _] sz.api_Input (k := ?_)
          refine Seq.nil ⟨(by repeat (first | exact Part.refl _ | exact Part.nil _ | apply Part.here | apply Part.skip)), ?_⟩
          refine Any.done (by kernel_rfl) ?_
          refine JC.seq ?_
          refine JC.rs ?_
          refine Seq.p rfl (Ev.ldBA ag.api_Input) ?_
          refine Seq.callP rfl (fun w hw => hP ▸ msgPack) ?_
          refine Seq.p rfl Ev.move ?_
          refine Seq.p rfl Ev.extract ?_
          refine Seq.p rfl Ev.extract ?_
          refine Seq.alloc (cs := [_, _, _, _, _, _, _, _]) (hz := z.api_Frame) (k := ?_); intro b7
          refine Seq.storeN [_, _, _, _, _, _, _, _] sz.api_Frame (k := ?_)
          refine Seq.p rfl Ev.assign ?_
          refine Seq.nil ?_
          refine JC.rs ?_
          refine Seq.p rfl Ev.move ?_
          refine Seq.p rfl Ev.ne ?_
          refine Seq.p rfl Ev.move ?_
          refine Seq.split (d := 60) (k := ?_)
          rintro (_|_) h60
          · try simp only [decide_eq_true_eq, decide_eq_false_iff_not] at h60
            refine Seq.gy rfl rfl rfl ?_
            refine Seq.p rfl (Ev.ldBA ag.api_Frame) ?_
            refine Seq.gy rfl rfl rfl ?_
            refine Seq.p rfl (Ev.ldBA ag.api_Frame) ?_
            refine Seq.gy rfl rfl rfl ?_
            refine Seq.p rfl (Ev.neAg so.api_Frame ag.api_Frame gd.api_Frame) ?_
            refine Seq.p rfl Ev.pickF ?_
            refine Seq.nil ?_
            first | refine JC.c (ht := fun c64 => ?_) (hf := fun c64 => ?_) | refine JC.cb (ht := fun c64 => ?_) (hf := fun c64 => ?_)
            · -- then_t64
              refine JC.rs ?_
              refine Seq.p rfl (Ev.buildN [_, _, _, _, _, _, _, _, _, _, _] pl.api_Input z.api_Input) ?_
              refine Seq.storeN [_, _, _, _, _, _, _, _, _, _, _] sz.api_Input (k := ?_)
              refine Seq.p rfl Ev.assign ?_
              refine Seq.nil ?_
              refine JC.ret ?_
              -- return 4
              show retQ _ _ _ _ _ _ _ _
              refine retB2 ag.api_Input (hp := Part.nil _) (hpost := ?_)
              have c65 : (!eqL (Frame.enc ⟨kk, [a0, a1, a2, a3, a4, a5, a6]⟩) (Frame.enc ⟨k, [g0, g1, g2, g3, g4, g5, g6]⟩)) = true := c64
              rw [Frame.eqL_enc] at c65
              have hne : ¬ ((⟨kk, [a0, a1, a2, a3, a4, a5, a6]⟩ : Frame) = ⟨k, [g0, g1, g2, g3, g4, g5, g6]⟩) := by intro he; rw [decide_eq_true he] at c65; cases c65
              rw [unpackF, if_neg hng, hx, hP, if_neg (fun h => hne h.2)]
              rfl
            · -- else_t64
              refine JC.skip ?_
              refine JC.rs ?_
              refine Seq.p rfl (Ev.ldBA ag.api_Input) ?_
              refine Seq.storeN [_, _, _, _, _, _, _, _, _, _, _] sz.api_Input (k := ?_)
              refine Seq.p rfl Ev.assign ?_
              refine Seq.nil ?_
              refine JC.ret ?_
              -- return 5
              show retQ _ _ _ _ _ _ _ _
              refine retB2 ag.api_Input (hp := Part.nil _) (hpost := ?_)
              have c65 : (!eqL (Frame.enc ⟨kk, [a0, a1, a2, a3, a4, a5, a6]⟩) (Frame.enc ⟨k, [g0, g1, g2, g3, g4, g5, g6]⟩)) = false := c64
              rw [Frame.eqL_enc] at c65
              have heq : ((⟨kk, [a0, a1, a2, a3, a4, a5, a6]⟩ : Frame) = ⟨k, [g0, g1, g2, g3, g4, g5, g6]⟩) := of_ndec c65
              rw [unpackF, if_neg hng, hx, hP, if_pos ⟨Classical.not_not.1 h60, heq⟩]
              rfl
          · try simp only [decide_eq_true_eq, decide_eq_false_iff_not] at h60
            refine Seq.gn rfl rfl rfl rfl ?_
            refine Seq.gn rfl rfl rfl rfl ?_
            refine Seq.gn rfl rfl rfl rfl ?_
            refine Seq.p rfl Ev.pickT ?_
            refine Seq.nil ?_
            refine JC.cT (h := ?_)
            refine JC.rs ?_
            refine Seq.p rfl (Ev.buildN [_, _, _, _, _, _, _, _, _, _, _] pl.api_Input z.api_Input) ?_
            refine Seq.storeN [_, _, _, _, _, _, _, _, _, _, _] sz.api_Input (k := ?_)
            refine Seq.p rfl Ev.assign ?_
            refine Seq.nil ?_
            refine JC.ret ?_
            -- return 6
            show retQ _ _ _ _ _ _ _ _
            refine retB2 ag.api_Input (hp := Part.nil _) (hpost := ?_)
            rw [unpackF, if_neg hng, hx, hP, if_neg (fun h => h60 h.1)]
            rfl
      · -- first 7
        refine Seq.alloc (cs := [_, _, _, _, _, _, _, _, _, _, _]) (hz := z.api_Input) (k := ?_); intro b6
        refine Seq.nil ⟨(by repeat (first | exact Part.refl _ | exact Part.nil _ | apply Part.here | apply Part.skip)), ?_⟩
        refine Any.one 5 rfl (by kernel_rfl) ?_
        refine Seq.call rfl (fun w hw => msgOnly (m := wordsM [g0, g1, g2, g3, g4, g5, g6]) (by omega) (RM.up RM.own hw)) (F := _) (by exact List.Perm.refl _) ?_
        rintro _ _ ⟨bm, rfl, rfl⟩
        refine Seq.nil ⟨(by repeat (first | exact Part.refl _ | exact Part.nil _ | apply Part.here | apply Part.skip)), ?_⟩
        refine Any.one 6 rfl (by kernel_rfl) ?_
        refine Seq.callP rfl (fun w hw => hx ▸ msgUnpackInput (bs := [g0, g1, g2, g3, g4, g5, g6]) (RM.up RM.own hw)) ?_
        refine Seq.nil ⟨(by repeat (first | exact Part.refl _ | exact Part.nil _ | apply Part.here | apply Part.skip)), ?_⟩
        refine Any.one 8 rfl (by kernel_rfl) ?_
        refine Seq.storeN [_, _, _, _, _, _, _, _, _, _, _] sz.api_Input (k := ?_)
        refine Seq.nil ⟨(by repeat (first | exact Part.refl _ | exact Part.nil _ | apply Part.here | apply Part.skip)), ?_⟩
        refine Any.done (by kernel_rfl) ?_
        refine JC.seq ?_
        refine JC.rs ?_
        refine Seq.p rfl (Ev.ldBA ag.api_Input) ?_
        refine Seq.callP rfl (fun w hw => hP ▸ msgPack) ?_
        refine Seq.p rfl Ev.move ?_
        refine Seq.p rfl Ev.extract ?_
        refine Seq.p rfl Ev.extract ?_
        refine Seq.alloc (cs := [_, _, _, _, _, _, _, _]) (hz := z.api_Frame) (k := ?_); intro b7
        refine Seq.storeN [_, _, _, _, _, _, _, _] sz.api_Frame (k := ?_)
        refine Seq.p rfl Ev.assign ?_
        refine Seq.nil ?_
        refine JC.rs ?_
        refine Seq.p rfl Ev.move ?_
        refine Seq.p rfl Ev.ne ?_
        refine Seq.p rfl Ev.move ?_
        refine Seq.split (d := 60) (k := ?_)
        rintro (_|_) h60
        · try simp only [decide_eq_true_eq, decide_eq_false_iff_not] at h60
          refine Seq.gy rfl rfl rfl ?_
          refine Seq.p rfl (Ev.ldBA ag.api_Frame) ?_
          refine Seq.gy rfl rfl rfl ?_
          refine Seq.p rfl (Ev.ldBA ag.api_Frame) ?_
          refine Seq.gy rfl rfl rfl ?_
          refine Seq.p rfl (Ev.neAg so.api_Frame ag.api_Frame gd.api_Frame) ?_
          refine Seq.p rfl Ev.pickF ?_
          refine Seq.nil ?_
          first | refine JC.c (ht := fun c64 => ?_) (hf := fun c64 => ?_) | refine JC.cb (ht := fun c64 => ?_) (hf := fun c64 => ?_)
          · -- then_t64
            refine JC.rs ?_
            refine Seq.p rfl (Ev.buildN [_, _, _, _, _, _, _, _, _, _, _] pl.api_Input z.api_Input) ?_
            refine Seq.storeN [_, _, _, _, _, _, _, _, _, _, _] sz.api_Input (k := ?_)
            refine Seq.p rfl Ev.assign ?_
            refine Seq.nil ?_
            refine JC.ret ?_
            -- return 7
            show retQ _ _ _ _ _ _ _ _
            refine retB2 ag.api_Input (hp := Part.nil _) (hpost := ?_)
            have c65 : (!eqL (Frame.enc ⟨kk, [a0, a1, a2, a3, a4, a5, a6]⟩) (Frame.enc ⟨k, [g0, g1, g2, g3, g4, g5, g6]⟩)) = true := c64
            rw [Frame.eqL_enc] at c65
            have hne : ¬ ((⟨kk, [a0, a1, a2, a3, a4, a5, a6]⟩ : Frame) = ⟨k, [g0, g1, g2, g3, g4, g5, g6]⟩) := by intro he; rw [decide_eq_true he] at c65; cases c65
            rw [unpackF, if_neg hng, hx, hP, if_neg (fun h => hne h.2)]
            rfl
          · -- else_t64
            refine JC.skip ?_
            refine JC.rs ?_
            refine Seq.p rfl (Ev.ldBA ag.api_Input) ?_
            refine Seq.storeN [_, _, _, _, _, _, _, _, _, _, _] sz.api_Input (k := ?_)
            refine Seq.p rfl Ev.assign ?_
            refine Seq.nil ?_
            refine JC.ret ?_
            -- return 8
            show retQ _ _ _ _ _ _ _ _
            refine retB2 ag.api_Input (hp := Part.nil _) (hpost := ?_)
            have c65 : (!eqL (Frame.enc ⟨kk, [a0, a1, a2, a3, a4, a5, a6]⟩) (Frame.enc ⟨k, [g0, g1, g2, g3, g4, g5, g6]⟩)) = false := c64
            rw [Frame.eqL_enc] at c65
            have heq : ((⟨kk, [a0, a1, a2, a3, a4, a5, a6]⟩ : Frame) = ⟨k, [g0, g1, g2, g3, g4, g5, g6]⟩) := of_ndec c65
            rw [unpackF, if_neg hng, hx, hP, if_pos ⟨Classical.not_not.1 h60, heq⟩]
            rfl
        · try simp only [decide_eq_true_eq, decide_eq_false_iff_not] at h60
          refine Seq.gn rfl rfl rfl rfl ?_
          refine Seq.gn rfl rfl rfl rfl ?_
          refine Seq.gn rfl rfl rfl rfl ?_
          refine Seq.p rfl Ev.pickT ?_
          refine Seq.nil ?_
          refine JC.cT (h := ?_)
          refine JC.rs ?_
          refine Seq.p rfl (Ev.buildN [_, _, _, _, _, _, _, _, _, _, _] pl.api_Input z.api_Input) ?_
          refine Seq.storeN [_, _, _, _, _, _, _, _, _, _, _] sz.api_Input (k := ?_)
          refine Seq.p rfl Ev.assign ?_
          refine Seq.nil ?_
          refine JC.ret ?_
          -- return 9
          show retQ _ _ _ _ _ _ _ _
          refine retB2 ag.api_Input (hp := Part.nil _) (hpost := ?_)
          rw [unpackF, if_neg hng, hx, hP, if_neg (fun h => h60 h.1)]
          rfl
  · try simp only [decide_eq_true_eq, decide_eq_false_iff_not] at h12
    refine Seq.gn rfl rfl rfl rfl ?_
    refine Seq.gn rfl rfl rfl rfl ?_
    refine Seq.gn rfl rfl rfl rfl ?_
    refine Seq.p rfl Ev.pickT ?_
    refine Seq.nil ?_
    refine JC.cT (h := ?_)
    refine JC.rs ?_
    refine Seq.p rfl (Ev.buildN [_, _, _, _, _, _, _, _, _, _, _] pl.api_Input z.api_Input) ?_
    refine Seq.storeN [_, _, _, _, _, _, _, _, _, _, _] sz.api_Input (k := ?_)
    refine Seq.p rfl Ev.assign ?_
    refine Seq.nil ?_
    refine JC.ret ?_
    -- return 10
    show retQ _ _ _ _ _ _ _ _
    refine retB2 ag.api_Input (hp := Part.nil _) (hpost := ?_)
    rw [unpackF, if_pos (Or.inl h12)]
    rfl
end Go.Rx
namespace Go.Rx
open Go Go.RowKit
set_option linter.unusedVariables false
set_option linter.unusedSimpArgs false
def takenF (f : Frame) (x : RF) : Int := if 0 < x.most then andU (down f.words[x.word.toNat]! x.shift) x.most else down f.words[x.word.toNat]! x.shift
def takeGo (f : Frame) (l : List RF) (a : Input) : Input := l.foldl (fun a x => withF a x.tag (takenF f x)) a
theorem takeGo_snoc (f : Frame) (l : List RF) (a : Input) (i : Nat) (h : i < l.length) : takeGo f (l.take (i + 1)) a = withF (takeGo f (l.take i) a) l[i]!.tag (takenF f l[i]!) := by
  have : l.take (i + 1) = l.take i ++ [l[i]!] := by
    rw [List.take_succ_eq_append_getElem h, getElem!_pos l i h]
  rw [this]
  unfold takeGo
  rw [List.foldl_append]
  rfl
set_option maxHeartbeats 4000000 in
set_option maxRecDepth 100000 in
theorem refFields0 {w : World} {k : Int} (hk : ¬ (1 ≤ k ∧ k ≤ 4)) : Spec Go.Proofs.Tryd.prog 21 #[.int .i64 k] w [] (fun u _ => u = .slice none 0 0) := by
  refine Spec.enter (fn := Go.Proofs.Tryd.f21) (n := 40) [.int .i64 k] Go.Proofs.Tryd.func21 (by kernel_rfl) rfl Go.Proofs.Tryd.ntmps21 Go.Proofs.Tryd.results21 rfl (Own.nil _) ?_
  refine JC.rs ?_
  refine Seq.p rfl Ev.assign ?_
  refine Seq.nil ?_
  refine JC.rs ?_
  refine Seq.p rfl (Ev.buildN [_, _, _, _] pl.bourseref04_field z.bourseref04_field) ?_
  refine Seq.p rfl (Ev.buildN [_, _, _, _] pl.bourseref04_field z.bourseref04_field) ?_
  refine Seq.alloc (cs := [_, _, _, _]) (hz := z.bourseref04_field) (k := ?_); intro b3
  refine Seq.alloc (cs := [_, _, _, _]) (hz := z.bourseref04_field) (k := ?_); intro b4
  refine Seq.storeN [_, _, _, _] sz.bourseref04_field (k := ?_)
  refine Seq.storeN [_, _, _, _] sz.bourseref04_field (k := ?_)
  refine Seq.nil ?_
  refine JC.rs ?_
  refine Seq.p rfl (Ev.buildN [_, _, _, _] pl.bourseref04_field z.bourseref04_field) ?_
  refine Seq.p rfl (Ev.buildN [_, _, _, _] pl.bourseref04_field z.bourseref04_field) ?_
  refine Seq.p rfl (Ev.buildN [_, _, _, _] pl.bourseref04_field z.bourseref04_field) ?_
  refine Seq.alloc (cs := [_, _, _, _]) (hz := z.bourseref04_field) (k := ?_); intro b5
  refine Seq.alloc (cs := [_, _, _, _]) (hz := z.bourseref04_field) (k := ?_); intro b6
  refine Seq.alloc (cs := [_, _, _, _]) (hz := z.bourseref04_field) (k := ?_); intro b7
  refine Seq.storeN [_, _, _, _] sz.bourseref04_field (k := ?_)
  refine Seq.storeN [_, _, _, _] sz.bourseref04_field (k := ?_)
  refine Seq.storeN [_, _, _, _] sz.bourseref04_field (k := ?_)
  refine Seq.nil ?_
  refine JC.seq ?_
  refine JC.rs ?_
  refine Seq.p rfl Ev.move ?_
  refine Seq.nil ?_
  refine JC.blk ?_
  refine JC.rs ?_
  refine Seq.p rfl Ev.eq ?_
  refine Seq.p rfl Ev.assign ?_
  refine Seq.nil ?_
  first | refine JC.c (ht := fun c14 => ?_) (hf := fun c14 => ?_) | refine JC.cb (ht := fun c14 => ?_) (hf := fun c14 => ?_)
  · -- then_t14
    exfalso; omega
  · -- else_t14
    refine JC.rs ?_
    refine Seq.p rfl Ev.eq ?_
    refine Seq.p rfl Ev.assign ?_
    refine Seq.nil ?_
    first | refine JC.c (ht := fun c24 => ?_) (hf := fun c24 => ?_) | refine JC.cb (ht := fun c24 => ?_) (hf := fun c24 => ?_)
    · -- then_t24
      exfalso; omega
    · -- else_t24
      refine JC.rs ?_
      refine Seq.p rfl Ev.eq ?_
      refine Seq.p rfl Ev.assign ?_
      refine Seq.nil ?_
      first | refine JC.c (ht := fun c28 => ?_) (hf := fun c28 => ?_) | refine JC.cb (ht := fun c28 => ?_) (hf := fun c28 => ?_)
      · -- then_t28
        exfalso; omega
      · -- else_t28
        refine JC.rs ?_
        refine Seq.p rfl Ev.eq ?_
        refine Seq.p rfl Ev.assign ?_
        refine Seq.nil ?_
        first | refine JC.c (ht := fun c36 => ?_) (hf := fun c36 => ?_) | refine JC.cb (ht := fun c36 => ?_) (hf := fun c36 => ?_)
        · -- then_t36
          exfalso; omega
        · -- else_t36
          refine JC.skip ?_
          refine JC.rs ?_
          refine Seq.p rfl Ev.assign ?_
          refine Seq.nil ?_
          refine JC.ret ?_
          -- return 0
          show retQ _ _ _ _ _ _ _ _
          refine ret1 (hp := Part.nil _) (hpost := ?_)
          rfl
def refUnpackI (f : Frame) : Input := takeGo f (refFieldsF f.kind) (bareF f.kind)
def refUnpackF (f : Frame) : Input × Int := if f.kind < 1 ∨ 4 < f.kind then (input0, 41) else if (refPackF (refUnpackI f)).2 = 0 ∧ (refPackF (refUnpackI f)).1 = f then (refUnpackI f, 0) else (input0, 40)
end Go.Rx
/- The law bourselaw04.MessageUnpacks gives true, whatever the frame; the input reads as it did. No condition beyond the row's own. -/
namespace Go.Rx
open Go Go.RowKit Go.WideShapes
set_option linter.unusedVariables false
set_option linter.unusedSimpArgs false
theorem down_zero (n : Int) : down n 0 = n := by
  have e : (2 : Int) ^ (min (Int.toNat 0) IntKind.u64.bits) = 1 := rfl
  rw [down, e, Int.ediv_one]
theorem s64_range (n : Int) : -9223372036854775808 ≤ s64 n ∧ s64 n ≤ 9223372036854775807 := by
  have h64 : (2 ^ IntKind.i64.bits : Int) = 18446744073709551616 := rfl
  have h63 : (2 ^ (IntKind.i64.bits - 1) : Int) = 9223372036854775808 := rfl
  have hs : IntKind.i64.signed = true := rfl
  simp only [s64, IntKind.wrap, h64, h63, hs, Bool.true_and, ge_iff_le, decide_eq_true_eq]
  split <;> omega
section
variable (g0 g1 g2 g3 g4 g5 g6 : Int)
def inp1 : Input := ⟨1, 1, g0, 0, andU g2 4294967295 % 4294967296, s64 (andU (down g2 32) 255), s64 (andU (down g2 40) 255), s64 (andU g3 4294967295), g4, g5, 0⟩
def inp2 : Input := ⟨1, 2, 0, g1, 0, 0, 0, 0, 0, 0, 0⟩
def inp3 : Input := ⟨1, 3, g0, g1, 0, 0, 0, s64 (andU g3 4294967295), g4, g5, 0⟩
def inp4 : Input := ⟨2, 0, 0, 0, 0, 0, 0, 0, 0, 0, s64 (andU g0 255)⟩
theorem unp1 : unpackI ⟨1, [g0, g1, g2, g3, g4, g5, g6]⟩ = inp1 g0 g2 g3 g4 g5 := rfl
theorem unp2 : unpackI ⟨2, [g0, g1, g2, g3, g4, g5, g6]⟩ = inp2 g1 := rfl
theorem unp3 : unpackI ⟨3, [g0, g1, g2, g3, g4, g5, g6]⟩ = inp3 g0 g1 g3 g4 g5 := rfl
theorem ref1 : refUnpackI ⟨1, [g0, g1, g2, g3, g4, g5, g6]⟩ = inp1 g0 g2 g3 g4 g5 := by
  show (⟨1, 1, down g0 0, 0, andU (down g2 0) 4294967295 % 4294967296, s64 (andU (down g2 32) 255), s64 (andU (down g2 40) 255), s64 (andU (down g3 0) 4294967295), down g4 0, down g5 0, 0⟩ : Input) = _
  simp only [down_zero]
  rfl
theorem ref2 : refUnpackI ⟨2, [g0, g1, g2, g3, g4, g5, g6]⟩ = inp2 g1 := by
  show (⟨1, 2, 0, down g1 0, 0, 0, 0, 0, 0, 0, 0⟩ : Input) = _
  simp only [down_zero]
  rfl
theorem ref3 : refUnpackI ⟨3, [g0, g1, g2, g3, g4, g5, g6]⟩ = inp3 g0 g1 g3 g4 g5 := by
  show (⟨1, 3, down g0 0, down g1 0, 0, 0, 0, s64 (andU (down g3 0) 4294967295), down g4 0, down g5 0, 0⟩ : Input) = _
  simp only [down_zero]
  rfl
theorem ref4 : refUnpackI ⟨4, [g0, g1, g2, g3, g4, g5, g6]⟩ = inp4 g0 := by
  show (⟨2, 0, 0, 0, 0, 0, 0, 0, 0, 0, s64 (andU (down g0 0) 255)⟩ : Input) = _
  simp only [down_zero]
  rfl
end
theorem andU_255 (g : Int) : 0 ≤ andU g 255 ∧ andU g 255 ≤ 255 := by
  have h : (BitVec.ofInt IntKind.u64.bits g &&& BitVec.ofInt IntKind.u64.bits 255).toNat ≤ 255 := by
    rw [BitVec.toNat_and]
    exact Nat.and_le_right
  have h64 : (2 ^ IntKind.u64.bits : Int) = 18446744073709551616 := rfl
  have hs : IntKind.u64.signed = false := rfl
  have e : andU g 255 = ((BitVec.ofInt IntKind.u64.bits g &&& BitVec.ofInt IntKind.u64.bits 255).toNat : Int) := by
    simp only [andU, IntKind.wrap, h64, hs, Bool.false_and]
    exact Int.emod_eq_of_lt (by omega) (by omega)
  rw [e]
  omega
theorem andU_small {g : Int} (h : 0 ≤ g ∧ g ≤ 255) : andU g 255 = g := by
  have h64 : (2 ^ IntKind.u64.bits : Int) = 18446744073709551616 := rfl
  have hs : IntKind.u64.signed = false := rfl
  have h1 : (BitVec.ofInt IntKind.u64.bits g).toNat = g.toNat := by
    rw [BitVec.toNat_ofInt]
    have : ((2 ^ IntKind.u64.bits : Nat) : Int) = 18446744073709551616 := rfl
    rw [this, Int.emod_eq_of_lt h.1 (by omega)]
  have h2 : (BitVec.ofInt IntKind.u64.bits 255).toNat = 2 ^ 8 - 1 := rfl
  have e : (BitVec.ofInt IntKind.u64.bits g &&& BitVec.ofInt IntKind.u64.bits 255).toNat = g.toNat := by
    rw [BitVec.toNat_and, h1, h2, Nat.and_two_pow_sub_one_eq_mod]
    exact Nat.mod_eq_of_lt (by omega)
  simp only [andU, IntKind.wrap, h64, hs, Bool.false_and, e]
  rw [Int.emod_eq_of_lt (by omega) (by omega)]
  simp
  omega
theorem unp4 (g0 g1 g2 g3 g4 g5 g6 : Int) : unpackI ⟨4, [g0, g1, g2, g3, g4, g5, g6]⟩ = ⟨2, 0, 0, 0, 0, 0, 0, 0, 0, 0, s64 g0⟩ := rfl
theorem unpack_of {f : Frame} (hw : (unpackI f).Wf) (h : unpackI f = refUnpackI f) : unpackF f = refUnpackF f := by
  rw [unpackF, refUnpackF, ← h, ← pack_eq hw]
theorem s64_big {g : Int} (h : 255 < g ∧ g ≤ 18446744073709551615) : ¬ (0 ≤ s64 g ∧ s64 g ≤ 255) := by
  have h64 : (2 ^ IntKind.i64.bits : Int) = 18446744073709551616 := rfl
  have h63 : (2 ^ (IntKind.i64.bits - 1) : Int) = 9223372036854775808 := rfl
  have hs : IntKind.i64.signed = true := rfl
  simp only [s64, IntKind.wrap, h64, h63, hs, Bool.true_and, ge_iff_le, decide_eq_true_eq]
  split <;> omega
theorem unpack_eq {k g0 g1 g2 g3 g4 g5 g6 : Int} (b0 : 0 ≤ g0 ∧ g0 ≤ 18446744073709551615) (b1 : 0 ≤ g1 ∧ g1 ≤ 18446744073709551615) (b4 : 0 ≤ g4 ∧ g4 ≤ 18446744073709551615) (b5 : 0 ≤ g5 ∧ g5 ≤ 18446744073709551615) :
    unpackF ⟨k, [g0, g1, g2, g3, g4, g5, g6]⟩ = refUnpackF ⟨k, [g0, g1, g2, g3, g4, g5, g6]⟩ := by
  by_cases hk : k < 1 ∨ 4 < k
  · rw [unpackF, refUnpackF, if_pos hk, if_pos hk]
  · have : k = 1 ∨ k = 2 ∨ k = 3 ∨ k = 4 := by omega
    have zi : -9223372036854775808 ≤ (0 : Int) ∧ (0 : Int) ≤ 9223372036854775807 := by decide
    have zu : (0 : Int) ≤ 0 ∧ (0 : Int) ≤ 18446744073709551615 := by decide
    have zm : (0 : Int) ≤ 0 ∧ (0 : Int) ≤ 4294967295 := by decide
    have c1 : -9223372036854775808 ≤ (1 : Int) ∧ (1 : Int) ≤ 9223372036854775807 := by decide
    have c2 : -9223372036854775808 ≤ (2 : Int) ∧ (2 : Int) ≤ 9223372036854775807 := by decide
    have c3 : -9223372036854775808 ≤ (3 : Int) ∧ (3 : Int) ≤ 9223372036854775807 := by decide
    have z : ∀ n : Int, 0 ≤ n % 4294967296 ∧ n % 4294967296 ≤ 4294967295 := fun n => by omega
    rcases this with rfl | rfl | rfl | rfl
    · refine unpack_of ?_ ((unp1 ..).trans (ref1 ..).symm)
      rw [unp1]
      exact ⟨c1, b0, zu, z _, s64_range _, s64_range _, s64_range _, b4, b5, zi⟩
    · refine unpack_of ?_ ((unp2 ..).trans (ref2 ..).symm)
      rw [unp2]
      exact ⟨c2, zu, b1, zm, zi, zi, zi, zu, zu, zi⟩
    · refine unpack_of ?_ ((unp3 ..).trans (ref3 ..).symm)
      rw [unp3]
      exact ⟨c3, b0, b1, zm, zi, zi, s64_range _, b4, b5, zi⟩
    · by_cases h : g0 ≤ 255
      · refine unpack_of ?_ ((unp4 ..).trans ?_)
        · rw [unp4]
          exact ⟨zi, zu, zu, zm, zi, zi, zi, zu, zu, s64_range _⟩
        · rw [ref4, inp4, andU_small ⟨b0.1, h⟩]
      · have hb := s64_big (g := g0) (by omega)
        have ha := andU_255 g0
        have he : s64 (andU g0 255) = andU g0 255 := s64_in (by omega)
        have hwy : (inp4 g0).Wf := ⟨zi, zu, zu, zm, zi, zi, zi, zu, zu, s64_range _⟩
        rw [unpackF, refUnpackF, if_neg hk, if_neg hk, unp4, ref4, ← pack_eq hwy]
        have hx : toldE ⟨2, 0, 0, 0, 0, 0, 0, 0, 0, 0, s64 g0⟩ = 40 := by
          show (if ([upToF 9001 (s64 g0) 255].all (·.fits)) = true ∧ _ then (0 : Int) else 40) = 40
          refine if_neg (fun h => hb ?_)
          have := h.1
          simpa [upToF] using this
        rw [if_neg, if_neg]
        · rintro ⟨e1, e2⟩
          have ht : toldE (inp4 g0) = 0 := by
            unfold packF at e1
            split at e1
            · assumption
            · exact e1
          rw [packF, if_pos ht] at e2
          have e3 : frameF 4 (numsF [upToF 9001 (s64 (andU g0 255)) 255]) = ⟨4, [g0, g1, g2, g3, g4, g5, g6]⟩ := e2
          have e4 : add64 0 (s64 (andU g0 255) % 18446744073709551616) = g0 := by
            have := congrArg Frame.words e3
            simp only [frameF] at this
            exact (List.cons.inj this).1
          rw [he, Int.emod_eq_of_lt ha.1 (by omega), add64_zero (by omega)] at e4
          omega
        · rintro ⟨e1, e2⟩
          rw [packF, if_neg (by rw [hx]; decide), hx] at e1
          cases e1
set_option maxRecDepth 100000 in
theorem open_frame {H : Type} {enc : TypeId × Value → H} {W : World} {base : Nat} {v : Value} {d : DataW H} {p : List MemPlace} (hv : Value.okWide Go.Proofs.Tryd.prog W .any base 40 v) (h : DataW.Trod enc Go.Proofs.Tryd.prog W 0 (fun _ => true) true 40 v d p) :
    ∃ k g0 g1 g2 g3 g4 g5 g6, v = .agg (frV k g0 g1 g2 g3 g4 g5 g6).toArray ∧ (0 ≤ k ∧ k ≤ 255) ∧ (0 ≤ g0 ∧ g0 ≤ 18446744073709551615) ∧ (0 ≤ g1 ∧ g1 ≤ 18446744073709551615) ∧ (0 ≤ g2 ∧ g2 ≤ 18446744073709551615) ∧ (0 ≤ g3 ∧ g3 ≤ 18446744073709551615) ∧ (0 ≤ g4 ∧ g4 ≤ 18446744073709551615) ∧ (0 ≤ g5 ∧ g5 ≤ 18446744073709551615) ∧ (0 ≤ g6 ∧ g6 ≤ 18446744073709551615) := by
  obtain ⟨cs, rfl, hcs⟩ := okWide_struct Go.Proofs.Tryd.underlying40 hv
  obtain ⟨fuel, hf⟩ := h
  have hp := trod_plain 20 _ _ so.api_Frame fuel _ _ hf
  have e : (Value.agg cs).cells.toList = cs.toList := rfl
  rw [e] at hp
  obtain ⟨ha, hb⟩ := hp
  obtain ⟨c0, r0, q0, i0, ha⟩ := areSorts_cons ha
  obtain ⟨c1, r1, rfl, i1, ha⟩ := areSorts_cons ha
  obtain ⟨c2, r2, rfl, i2, ha⟩ := areSorts_cons ha
  obtain ⟨c3, r3, rfl, i3, ha⟩ := areSorts_cons ha
  obtain ⟨c4, r4, rfl, i4, ha⟩ := areSorts_cons ha
  obtain ⟨c5, r5, rfl, i5, ha⟩ := areSorts_cons ha
  obtain ⟨c6, r6, rfl, i6, ha⟩ := areSorts_cons ha
  obtain ⟨c7, r7, rfl, i7, ha⟩ := areSorts_cons ha
  obtain rfl := areSorts_nil ha
  rw [q0] at hb
  simp only [List.all_cons, List.all_nil, Bool.and_eq_true] at hb
  obtain ⟨n0, rfl, w0⟩ := isSort_int' i0 hb.1
  obtain ⟨n1, rfl, w1⟩ := isSort_int' i1 hb.2.1
  obtain ⟨n2, rfl, w2⟩ := isSort_int' i2 hb.2.2.1
  obtain ⟨n3, rfl, w3⟩ := isSort_int' i3 hb.2.2.2.1
  obtain ⟨n4, rfl, w4⟩ := isSort_int' i4 hb.2.2.2.2.1
  obtain ⟨n5, rfl, w5⟩ := isSort_int' i5 hb.2.2.2.2.2.1
  obtain ⟨n6, rfl, w6⟩ := isSort_int' i6 hb.2.2.2.2.2.2.1
  obtain ⟨n7, rfl, w7⟩ := isSort_int' i7 hb.2.2.2.2.2.2.2.1
  refine ⟨n0, n1, n2, n3, n4, n5, n6, n7, ?_, wf_bounds w0, wf_bounds w1, wf_bounds w2, wf_bounds w3, wf_bounds w4, wf_bounds w5, wf_bounds w6, wf_bounds w7⟩
  congr 1
  apply Array.ext'
  rw [q0]
  rfl
end Go.Rx
namespace Go.Proofs.YthpejgmkiomfhaaDoor
open Go Go.RowKit Go.WideShapes Go.ChangeShapes Go.ChangeAt Go.Rx
set_option linter.unusedVariables false
end Go.Proofs.YthpejgmkiomfhaaDoor
namespace Go.Rx
open Go Go.RowKit
set_option linter.unusedVariables false
set_option linter.unusedSimpArgs false
def evWordsM (ws : List Int) : List (Int × Int) :=
  [(34, ws[0]!), (11, ws[1]!), (37, ws[2]!), (41, ws[2]!), (1, andU ws[3]! 4294967295), (54, andU (down ws[3]! 32) 255), (40, andU (down ws[3]! 40) 255), (378, andU (down ws[3]! 48) 255), (44, andU ws[4]! 4294967295), (103, down ws[4]! 32), (38, ws[5]!), (210, ws[6]!)]
def unpackEvX (k : Int) (fs : List Fld) (ws : List Int) : Event := eventOfF (k - 64) (someF fs (evWordsM ws))
def unpackEvF (f : Frame) : Event × Int := match evFieldsF (ev0 (f.kind - 64)) with
  | none => (ev0 0, 41)
  | some fs => if (packEvF (unpackEvX f.kind fs f.words)).2 = 0 ∧ (packEvF (unpackEvX f.kind fs f.words)).1 = f then (unpackEvX f.kind fs f.words, 0) else (ev0 0, 40)
def unpackEvV (p : Event × Int) : Value := .tuple #[.agg p.1.enc.toArray, .int .i64 p.2]
theorem msgUnpackEvOf {w : World} {k : Int} {fs : List Fld} {bs : List Int} {vm : Value} (hm : RMp .i64 .u64 w [] vm (someF fs (evWordsM bs))) : Spec Go.Proofs.Tryd.prog 54 #[.int .i64 (k - 64), vm] w [] (fun u _ => u = .agg (unpackEvX k fs bs).enc.toArray) := msgEventOf hm
theorem packEvF_len (e : Event) : (packEvF e).1.words.length = 7 := by
  unfold packEvF
  split
  · split <;> rfl
  · rfl
end Go.Rx
namespace Go.Rx
open Go Go.RowKit
set_option linter.unusedVariables false
set_option linter.unusedSimpArgs false
def evTakeGo (f : Frame) (l : List RF) (a : Event) : Event := l.foldl (fun a x => withEventF a x.tag (takenF f x)) a
theorem evTakeGo_snoc (f : Frame) (l : List RF) (a : Event) (i : Nat) (h : i < l.length) : evTakeGo f (l.take (i + 1)) a = withEventF (evTakeGo f (l.take i) a) l[i]!.tag (takenF f l[i]!) := by
  have : l.take (i + 1) = l.take i ++ [l[i]!] := by
    rw [List.take_succ_eq_append_getElem h, getElem!_pos l i h]
  rw [this]
  unfold evTakeGo
  rw [List.foldl_append]
  rfl
def refUnpackEvI (f : Frame) : Event := evTakeGo f (toldRF (f.kind - 64)) (ev0 (f.kind - 64))
def refUnpackEvF (f : Frame) : Event × Int := if ¬ (1 ≤ f.kind - 64 ∧ f.kind - 64 ≤ 5) then (ev0 0, 41) else if (refPackEvF (refUnpackEvI f)).2 = 0 ∧ (refPackEvF (refUnpackEvI f)).1 = f then (refUnpackEvI f, 0) else (ev0 0, 40)
theorem refPackEvF_len (x : Event) : (refPackEvF x).1.words.length = 7 := by
  unfold refPackEvF
  split
  · split
    · exact laidGo_length _ _ _
    · rfl
  · rfl
end Go.Rx
/- The law bourselaw04.MessageEvents gives true, whatever the event and the frame; the input reads as it did. No condition beyond the row's own. -/
namespace Go.Rx
open Go Go.RowKit Go.WideShapes
set_option linter.unusedVariables false
set_option linter.unusedSimpArgs false
theorem andU_m32 {g : Int} (h : 0 ≤ g ∧ g ≤ 4294967295) : andU g 4294967295 = g := by
  have h64 : (2 ^ IntKind.u64.bits : Int) = 18446744073709551616 := rfl
  have hs : IntKind.u64.signed = false := rfl
  have h1 : (BitVec.ofInt IntKind.u64.bits g).toNat = g.toNat := by
    rw [BitVec.toNat_ofInt]
    have : ((2 ^ IntKind.u64.bits : Nat) : Int) = 18446744073709551616 := rfl
    rw [this, Int.emod_eq_of_lt h.1 (by omega)]
  have h2 : (BitVec.ofInt IntKind.u64.bits 4294967295).toNat = 2 ^ 32 - 1 := rfl
  have e : (BitVec.ofInt IntKind.u64.bits g &&& BitVec.ofInt IntKind.u64.bits 4294967295).toNat = g.toNat := by
    rw [BitVec.toNat_and, h1, h2, Nat.and_two_pow_sub_one_eq_mod]
    exact Nat.mod_eq_of_lt (by omega)
  simp only [andU, IntKind.wrap, h64, hs, Bool.false_and, e]
  rw [Int.emod_eq_of_lt (by omega) (by omega)]
  simp
  omega
theorem down32 {g : Int} (h : 0 ≤ g ∧ g ≤ 18446744073709551615) : 0 ≤ down g 32 ∧ down g 32 ≤ 4294967295 := by
  have e : (2 : Int) ^ (min (Int.toNat 32) IntKind.u64.bits) = 4294967296 := rfl
  rw [down, e]
  omega
theorem unpackEv_of {k : Int} {ws : List Int} {fs : List Fld} (hF : evFieldsF (ev0 (k - 64)) = some fs) (hk : 1 ≤ k - 64 ∧ k - 64 ≤ 5) {x : Event} (h1 : unpackEvX k fs ws = x) (h2 : refUnpackEvI ⟨k, ws⟩ = x) (hw : x.Wf) : unpackEvF ⟨k, ws⟩ = refUnpackEvF ⟨k, ws⟩ := by
  rw [refUnpackEvF, if_neg (fun h => h hk), h2, ← packEv_eq hw]
  unfold unpackEvF
  rw [hF]
  dsimp only
  rw [h1]
theorem unpackEv_eq {k g0 g1 g2 g3 g4 g5 g6 : Int} (b0 : 0 ≤ g0 ∧ g0 ≤ 18446744073709551615) (b1 : 0 ≤ g1 ∧ g1 ≤ 18446744073709551615) (b2 : 0 ≤ g2 ∧ g2 ≤ 18446744073709551615) (b4 : 0 ≤ g4 ∧ g4 ≤ 18446744073709551615) (b5 : 0 ≤ g5 ∧ g5 ≤ 18446744073709551615) (b6 : 0 ≤ g6 ∧ g6 ≤ 18446744073709551615) :
    unpackEvF ⟨k, [g0, g1, g2, g3, g4, g5, g6]⟩ = refUnpackEvF ⟨k, [g0, g1, g2, g3, g4, g5, g6]⟩ := by
  by_cases hk : 1 ≤ k - 64 ∧ k - 64 ≤ 5
  · have : k = 65 ∨ k = 66 ∨ k = 67 ∨ k = 68 ∨ k = 69 := by omega
    have z : ∀ n : Int, 0 ≤ n % 4294967296 ∧ n % 4294967296 ≤ 4294967295 := fun n => by omega
    have zi : -9223372036854775808 ≤ (0 : Int) ∧ (0 : Int) ≤ 9223372036854775807 := by decide
    have zu : (0 : Int) ≤ 0 ∧ (0 : Int) ≤ 18446744073709551615 := by decide
    have zm : (0 : Int) ≤ 0 ∧ (0 : Int) ≤ 4294967295 := by decide
    have hd := andU_m32 (down32 b4)
    rcases this with rfl | rfl | rfl | rfl | rfl
    · refine unpackEv_of (fs := evFields1 (ev0 1)) rfl hk (x := ⟨g0, 1, g1, 0, 0, andU g3 4294967295 % 4294967296, s64 (andU (down g3 32) 255), s64 (andU (down g3 40) 255), s64 (andU g4 4294967295), g5, g6, 0, 0⟩) rfl ?_ ⟨b0, b1, zu, zu, z _, s64_range _, s64_range _, s64_range _, b5, b6, zi, zi⟩
      show (⟨down g0 0, 1, down g1 0, 0, 0, andU (down g3 0) 4294967295 % 4294967296, s64 (andU (down g3 32) 255), s64 (andU (down g3 40) 255), s64 (andU (down g4 0) 4294967295), down g5 0, down g6 0, 0, 0⟩ : Event) = _
      simp only [down_zero]
    · refine unpackEv_of (fs := evFields2 (ev0 2)) rfl hk (x := ⟨g0, 2, g1, 0, g2, 0, 0, 0, 0, 0, 0, 0, s64 (down g4 32)⟩) rfl ?_ ⟨b0, b1, zu, b2, zm, zi, zi, zi, zu, zu, zi, s64_range _⟩
      show (⟨down g0 0, 2, down g1 0, 0, down g2 0, 0, 0, 0, 0, 0, 0, 0, s64 (andU (down g4 32) 4294967295)⟩ : Event) = _
      simp only [down_zero, hd]
    · refine unpackEv_of (fs := evFields3 (ev0 3)) rfl hk (x := ⟨g0, 3, g1, g2, 0, 0, s64 (andU (down g3 32) 255), 0, s64 (andU g4 4294967295), g5, 0, 0, 0⟩) rfl ?_ ⟨b0, b1, b2, zu, zm, s64_range _, zi, s64_range _, b5, zu, zi, zi⟩
      show (⟨down g0 0, 3, down g1 0, down g2 0, 0, 0, s64 (andU (down g3 32) 255), 0, s64 (andU (down g4 0) 4294967295), down g5 0, 0, 0, 0⟩ : Event) = _
      simp only [down_zero]
    · refine unpackEv_of (fs := evFields4 (ev0 4)) rfl hk (x := ⟨g0, 4, g1, 0, 0, 0, 0, 0, 0, g5, 0, s64 (andU (down g3 48) 255), 0⟩) rfl ?_ ⟨b0, b1, zu, zu, zm, zi, zi, zi, b5, zu, s64_range _, zi⟩
      show (⟨down g0 0, 4, down g1 0, 0, 0, 0, 0, 0, 0, down g5 0, 0, s64 (andU (down g3 48) 255), 0⟩ : Event) = _
      simp only [down_zero]
    · refine unpackEv_of (fs := evFields5 (ev0 5)) rfl hk (x := ⟨g0, 5, g1, 0, 0, 0, 0, 0, s64 (andU g4 4294967295), g5, 0, 0, 0⟩) rfl ?_ ⟨b0, b1, zu, zu, zm, zi, zi, s64_range _, b5, zu, zi, zi⟩
      show (⟨down g0 0, 5, down g1 0, 0, 0, 0, 0, 0, s64 (andU (down g4 0) 4294967295), down g5 0, 0, 0, 0⟩ : Event) = _
      simp only [down_zero]
  · rw [refUnpackEvF, if_pos hk]
    have hF : evFieldsF (ev0 (k - 64)) = none := by
      have e : (ev0 (k - 64)).kind = k - 64 := rfl
      rw [evFieldsF, e, if_neg (by omega), if_neg (by omega), if_neg (by omega), if_neg (by omega), if_neg (by omega)]
    unfold unpackEvF
    rw [hF]
set_option maxRecDepth 100000 in
theorem open_event {H : Type} {enc : TypeId × Value → H} {W : World} {base : Nat} {v : Value} {d : DataW H} {p : List MemPlace} (hv : Value.okWide Go.Proofs.Tryd.prog W .any base 30 v) (h : DataW.Trod enc Go.Proofs.Tryd.prog W 0 (fun _ => true) true 30 v d p) :
    ∃ i : Event, v = .agg i.enc.toArray ∧ i.Wf := by
  obtain ⟨cs, rfl, hcs⟩ := okWide_struct Go.Proofs.Tryd.underlying30 hv
  obtain ⟨fuel, hf⟩ := h
  have hp := trod_plain 20 _ _ so.api_Event fuel _ _ hf
  have e : (Value.agg cs).cells.toList = cs.toList := rfl
  rw [e] at hp
  obtain ⟨ha, hb⟩ := hp
  obtain ⟨c0, r0, q0, i0, ha⟩ := areSorts_cons ha
  obtain ⟨c1, r1, rfl, i1, ha⟩ := areSorts_cons ha
  obtain ⟨c2, r2, rfl, i2, ha⟩ := areSorts_cons ha
  obtain ⟨c3, r3, rfl, i3, ha⟩ := areSorts_cons ha
  obtain ⟨c4, r4, rfl, i4, ha⟩ := areSorts_cons ha
  obtain ⟨c5, r5, rfl, i5, ha⟩ := areSorts_cons ha
  obtain ⟨c6, r6, rfl, i6, ha⟩ := areSorts_cons ha
  obtain ⟨c7, r7, rfl, i7, ha⟩ := areSorts_cons ha
  obtain ⟨c8, r8, rfl, i8, ha⟩ := areSorts_cons ha
  obtain ⟨c9, r9, rfl, i9, ha⟩ := areSorts_cons ha
  obtain ⟨c10, r10, rfl, i10, ha⟩ := areSorts_cons ha
  obtain ⟨c11, r11, rfl, i11, ha⟩ := areSorts_cons ha
  obtain ⟨c12, r12, rfl, i12, ha⟩ := areSorts_cons ha
  obtain rfl := areSorts_nil ha
  rw [q0] at hb
  simp only [List.all_cons, List.all_nil, Bool.and_eq_true] at hb
  obtain ⟨n0, rfl, w0⟩ := isSort_int' i0 hb.1
  obtain ⟨n1, rfl, w1⟩ := isSort_int' i1 hb.2.1
  obtain ⟨n2, rfl, w2⟩ := isSort_int' i2 hb.2.2.1
  obtain ⟨n3, rfl, w3⟩ := isSort_int' i3 hb.2.2.2.1
  obtain ⟨n4, rfl, w4⟩ := isSort_int' i4 hb.2.2.2.2.1
  obtain ⟨n5, rfl, w5⟩ := isSort_int' i5 hb.2.2.2.2.2.1
  obtain ⟨n6, rfl, w6⟩ := isSort_int' i6 hb.2.2.2.2.2.2.1
  obtain ⟨n7, rfl, w7⟩ := isSort_int' i7 hb.2.2.2.2.2.2.2.1
  obtain ⟨n8, rfl, w8⟩ := isSort_int' i8 hb.2.2.2.2.2.2.2.2.1
  obtain ⟨n9, rfl, w9⟩ := isSort_int' i9 hb.2.2.2.2.2.2.2.2.2.1
  obtain ⟨n10, rfl, w10⟩ := isSort_int' i10 hb.2.2.2.2.2.2.2.2.2.2.1
  obtain ⟨n11, rfl, w11⟩ := isSort_int' i11 hb.2.2.2.2.2.2.2.2.2.2.2.1
  obtain ⟨n12, rfl, w12⟩ := isSort_int' i12 hb.2.2.2.2.2.2.2.2.2.2.2.2.1
  refine ⟨⟨n0, n1, n2, n3, n4, n5, n6, n7, n8, n9, n10, n11, n12⟩, ?_, ⟨wf_bounds w0, wf_bounds w2, wf_bounds w3, wf_bounds w4, wf_bounds w5, wf_bounds w6, wf_bounds w7, wf_bounds w8, wf_bounds w9, wf_bounds w10, wf_bounds w11, wf_bounds w12⟩⟩
  congr 1
  apply Array.ext'
  rw [q0]
  rfl
end Go.Rx
namespace Go.Proofs.YthpejgmkiomfhaaDoor
open Go Go.RowKit Go.WideShapes Go.ChangeShapes Go.ChangeAt Go.Rx
set_option linter.unusedVariables false
end Go.Proofs.YthpejgmkiomfhaaDoor
/- What can be told is read back from its frame: plain. -/
namespace Go.Rx
open Go Go.RowKit
set_option linter.unusedVariables false
set_option linter.unusedSimpArgs false
theorem andU_mod32 {g : Int} (h : 0 ≤ g ∧ g ≤ 18446744073709551615) : andU g 4294967295 = g % 4294967296 := by
  have h64 : (2 ^ IntKind.u64.bits : Int) = 18446744073709551616 := rfl
  have hs : IntKind.u64.signed = false := rfl
  have h1 : (BitVec.ofInt IntKind.u64.bits g).toNat = g.toNat := by
    rw [BitVec.toNat_ofInt]
    have : ((2 ^ IntKind.u64.bits : Nat) : Int) = 18446744073709551616 := rfl
    rw [this, Int.emod_eq_of_lt h.1 (by omega)]
  have h2 : (BitVec.ofInt IntKind.u64.bits 4294967295).toNat = 2 ^ 32 - 1 := rfl
  have e : (BitVec.ofInt IntKind.u64.bits g &&& BitVec.ofInt IntKind.u64.bits 4294967295).toNat = g.toNat % 4294967296 := by
    rw [BitVec.toNat_and, h1, h2, Nat.and_two_pow_sub_one_eq_mod]
  simp only [andU, IntKind.wrap, h64, hs, Bool.false_and, e]
  rw [Int.emod_eq_of_lt (by omega) (by omega)]
  simp
  omega
theorem andU_mod8 {g : Int} (h : 0 ≤ g ∧ g ≤ 18446744073709551615) : andU g 255 = g % 256 := by
  have h64 : (2 ^ IntKind.u64.bits : Int) = 18446744073709551616 := rfl
  have hs : IntKind.u64.signed = false := rfl
  have h1 : (BitVec.ofInt IntKind.u64.bits g).toNat = g.toNat := by
    rw [BitVec.toNat_ofInt]
    have : ((2 ^ IntKind.u64.bits : Nat) : Int) = 18446744073709551616 := rfl
    rw [this, Int.emod_eq_of_lt h.1 (by omega)]
  have h2 : (BitVec.ofInt IntKind.u64.bits 255).toNat = 2 ^ 8 - 1 := rfl
  have e : (BitVec.ofInt IntKind.u64.bits g &&& BitVec.ofInt IntKind.u64.bits 255).toNat = g.toNat % 256 := by
    rw [BitVec.toNat_and, h1, h2, Nat.and_two_pow_sub_one_eq_mod]
  simp only [andU, IntKind.wrap, h64, hs, Bool.false_and, e]
  rw [Int.emod_eq_of_lt (by omega) (by omega)]
  simp
  omega
theorem down_32 (n : Int) : down n 32 = n / 4294967296 := rfl
theorem down_40 (n : Int) : down n 40 = n / 1099511627776 := rfl
theorem down_48 (n : Int) : down n 48 = n / 281474976710656 := rfl
theorem up_32 {n : Int} (h : 0 ≤ n ∧ n ≤ 4294967295) : up n 32 = n * 4294967296 := by
  show (n * 4294967296) % 18446744073709551616 = _
  omega
theorem up_40 {n : Int} (h : 0 ≤ n ∧ n ≤ 255) : up n 40 = n * 1099511627776 := by
  show (n * 1099511627776) % 18446744073709551616 = _
  omega
theorem up_48 {n : Int} (h : 0 ≤ n ∧ n ≤ 255) : up n 48 = n * 281474976710656 := by
  show (n * 281474976710656) % 18446744073709551616 = _
  omega
theorem s64_id {n : Int} (h : 0 ≤ n ∧ n ≤ 4294967295) : s64 n = n := wrap_i64 n (by omega)
/-- The three small numbers of a word. -/
theorem word_parts {m s t r : Int} (hm : 0 ≤ m ∧ m ≤ 4294967295) (hs : 0 ≤ s ∧ s ≤ 255) (ht : 0 ≤ t ∧ t ≤ 255) (hr : 0 ≤ r ∧ r ≤ 255) (w : Int) (hw : w = m + s * 4294967296 + t * 1099511627776 + r * 281474976710656) :
    andU w 4294967295 = m ∧ andU (down w 32) 255 = s ∧ andU (down w 40) 255 = t ∧ andU (down w 48) 255 = r := by
  rw [andU_mod32 (by omega), down_32, down_40, down_48, andU_mod8 (by omega), andU_mod8 (by omega), andU_mod8 (by omega)]
  omega
theorem fits_up {t n m : Int} (h : (upToF t n m).fits = true) : 0 ≤ n ∧ n ≤ m := by
  simp only [upToF, Bool.and_eq_true, decide_eq_true_eq] at h
  exact h
theorem pack_back {i : Input} (hw : i.Wf) (h : toldE i = 0) : unpackF (packF i).1 = (i, 0) := by
  have hp : packF i = ((packF i).1, 0) := by
    have : (packF i).2 = 0 := by unfold packF; rw [if_pos h]
    rw [← this]
  have key : (¬ ((packF i).1.kind < 1 ∨ 4 < (packF i).1.kind)) ∧ unpackI (packF i).1 = i := by
    have hid := hw.id; have htg := hw.target; have hme := hw.member; have hqt := hw.qty; have hpk := hw.peak
    obtain ⟨k, s, fs, hF⟩ : ∃ k s fs, fieldsF i = some (k, s, fs) := by
      unfold toldE at h
      cases hF : fieldsF i with
      | none => rw [hF] at h; cases h
      | some p => obtain ⟨k, s, fs⟩ := p; exact ⟨k, s, fs, rfl⟩
    have hc : fs.all (·.fits) = true ∧ inputF k (numsF fs) = i := by
      unfold toldE at h
      rw [hF] at h
      dsimp only at h
      split at h
      · rename_i hc; exact hc
      · cases h
    have hP : (packF i).1 = frameF k (numsF fs) := by unfold packF; rw [if_pos h, hF]
    rw [hP]
    obtain ⟨hf, he⟩ := hc
    clear hP hp h
    obtain ⟨kind, ckind, id, target, member, side, type, price, qty, peak, engine⟩ := i
    dsimp only at hid htg hme hqt hpk
    unfold fieldsF at hF
    dsimp only at hF
    split at hF
    · simp only [Option.some.injEq, Prod.mk.injEq] at hF
      obtain ⟨rfl, _, rfl⟩ := hF
      simp only [List.all_cons, List.all_nil, Bool.and_true] at hf
      have hb := fits_up hf
      refine ⟨by show ¬ ((4 : Int) < 1 ∨ (4 : Int) < 4); decide, ?_⟩
      rw [← he]
      show (⟨2, 0, 0, 0, 0, 0, 0, 0, 0, 0, s64 (add64 0 (engine % 18446744073709551616))⟩ : Input) = ⟨2, 0, 0, 0, 0, 0, 0, 0, 0, 0, s64 (engine % 18446744073709551616)⟩
      rw [show add64 0 (engine % 18446744073709551616) = engine % 18446744073709551616 by unfold add64; omega]
    · split at hF
      · cases hF
      · split at hF
        · simp only [Option.some.injEq, Prod.mk.injEq] at hF
          obtain ⟨rfl, _, rfl⟩ := hF
          simp only [List.all_cons, List.all_nil, Bool.and_true, Bool.and_eq_true] at hf
          have hb1 := fits_up hf.2.2.1
          have hb2 := fits_up hf.2.2.2.1
          have hb3 := fits_up hf.2.2.2.2.1
          refine ⟨by show ¬ ((1 : Int) < 1 ∨ (4 : Int) < 1); decide, ?_⟩
          have hA : numsF [wholeF 11 id, wholeF 1 (member % 18446744073709551616), upToF 54 side 255, upToF 40 type 255, upToF 44 price 4294967295, wholeF 38 qty, wholeF 210 peak] = [(11, id), (1, member % 18446744073709551616), (54, side % 18446744073709551616), (40, type % 18446744073709551616), (44, price % 18446744073709551616), (38, qty), (210, peak)] := rfl
          rw [hA] at he ⊢
          have hm' : member % 18446744073709551616 = member := by omega
          have hs' : side % 18446744073709551616 = side := by omega
          have ht' : type % 18446744073709551616 = type := by omega
          have hp' : price % 18446744073709551616 = price := by omega
          rw [hm', hs', ht', hp'] at he ⊢
          rw [← he]
          show inp1 (add64 id 0) (add64 (add64 member (up side 32)) (up type 40)) price qty peak = (⟨1, 1, id, 0, member % 4294967296, s64 side, s64 type, s64 price, qty, peak, 0⟩ : Input)
          have e0 : add64 id 0 = id := by unfold add64; omega
          have ew : add64 (add64 member (up side 32)) (up type 40) = member + side * 4294967296 + type * 1099511627776 + 0 * 281474976710656 := by
            rw [up_32 (by omega), up_40 (by omega)]
            unfold add64
            omega
          obtain ⟨w1, w2, w3, _⟩ := word_parts (m := member) (s := side) (t := type) (r := 0) (by omega) (by omega) (by omega) (by omega) _ ew
          unfold inp1
          rw [e0, w1, w2, w3, andU_m32 (by omega)]
        · split at hF
          · simp only [Option.some.injEq, Prod.mk.injEq] at hF
            obtain ⟨rfl, _, rfl⟩ := hF
            refine ⟨by show ¬ ((2 : Int) < 1 ∨ (4 : Int) < 2); decide, ?_⟩
            rw [← he]
            rfl
          · split at hF
            · simp only [Option.some.injEq, Prod.mk.injEq] at hF
              obtain ⟨rfl, _, rfl⟩ := hF
              simp only [List.all_cons, List.all_nil, Bool.and_true, Bool.and_eq_true] at hf
              have hb3 := fits_up hf.2.2.1
              refine ⟨by show ¬ ((3 : Int) < 1 ∨ (4 : Int) < 3); decide, ?_⟩
              have hp' : price % 18446744073709551616 = price := by omega
              have hA : numsF [wholeF 41 target, wholeF 11 id, upToF 44 price 4294967295, wholeF 38 qty, wholeF 210 peak] = [(41, target), (11, id), (44, price % 18446744073709551616), (38, qty), (210, peak)] := rfl
              rw [hA, hp'] at he ⊢
              rw [← he]
              show inp3 (add64 id 0) target price qty peak = (⟨1, 3, id, target, 0, 0, 0, s64 price, qty, peak, 0⟩ : Input)
              have e0 : add64 id 0 = id := by unfold add64; omega
              unfold inp3
              rw [e0, andU_m32 (by omega)]
            · cases hF
  unfold unpackF
  rw [if_neg key.1, key.2, hp]
  exact if_pos ⟨rfl, rfl⟩
end Go.Rx
/- Small parts of a line, by the program and by the document: sums, kinds, tags, values, three digits. -/
namespace Go.Rx
open Go Go.RowKit
set_option linter.unusedVariables false
set_option linter.unusedSimpArgs false
def isBytes (l : List Int) : Prop := ∀ x ∈ l, 0 ≤ x ∧ x ≤ 255
def sumB (l : List Int) : Int := l.foldl (fun s x => (s + x) % 256) 0
theorem sumB_snoc {l : List Int} {i : Nat} (h : i < l.length) : sumB (l.take (i + 1)) = (sumB (l.take i) + l[i]!) % 256 := by
  rw [List.take_succ_eq_append_getElem h, getElem!_pos l i h]
  unfold sumB
  rw [List.foldl_append]
  rfl
theorem sumB_range (l : List Int) : 0 ≤ sumB l ∧ sumB l ≤ 255 := by
  unfold sumB
  suffices h : ∀ (l : List Int) (s : Int), 0 ≤ s ∧ s ≤ 255 → 0 ≤ l.foldl (fun s x => (s + x) % 256) s ∧ l.foldl (fun s x => (s + x) % 256) s ≤ 255 from h l 0 (by omega)
  intro l
  induction l with
  | nil => intro s hs; exact hs
  | cons x r ih => intro s hs; exact ih ((s + x) % 256) (by omega)
theorem isBytes_get {l : List Int} (hB : isBytes l) {i : Nat} (h : i < l.length) : 0 ≤ l[i]! ∧ l[i]! ≤ 255 := by
  rw [getElem!_pos l i h]
  exact hB _ (List.getElem_mem _)
set_option maxHeartbeats 1000000 in
set_option maxRecDepth 100000 in
theorem textSum {w : World} {v : Value} {l : List Int} (hr : RSl byteEnc 1 w [] v l) (hB : isBytes l) : Spec Go.Proofs.Tryd.prog 72 #[v] w [] (fun u _ => u = .int .i64 (sumB l)) := by
  have hsm := hr.small
  refine Spec.enter (fn := Go.Proofs.Tryd.f72) (n := 18) [v] Go.Proofs.Tryd.func72 (by kernel_rfl) rfl Go.Proofs.Tryd.ntmps72 Go.Proofs.Tryd.results72 rfl (Own.nil _) ?_
  refine JC.rs ?_
  refine Seq.p rfl Ev.assign ?_
  refine Seq.nil ?_
  refine JC.rs ?_
  refine Seq.p rfl Ev.assign ?_
  refine Seq.nil ?_
  refine JC.seq ?_
  refine JC.rs ?_
  refine Seq.p rfl Ev.move ?_
  refine Seq.p rfl (Ev.lenSl sl.sl_uint8 (hr := hr.r)) ?_
  refine Seq.p rfl Ev.move ?_
  refine Seq.nil ?_
  refine JC.blk ?_
  refine JC.loop (α := Nat) (I := fun i e1 H1 => Has [3, 5, 8, 9, 10, 11, 12, 13, 14, 15] [(3, .int .u8 (sumB (l.take i))), (8, .int .i64 (i : Int))] _ e1 ∧ H1 = _ ∧ i ≤ l.length) (μ := fun i => l.length - i) 0 ⟨Has.mk Off.refl (allLook_cons (by repeat (first | exact Look.here | apply Look.there (hne := rfl) | exact Look.const | apply Look.mix rfl | exact Look.arg0 | apply Look.args | exact Look.func)) (allLook_cons (by repeat (first | exact Look.here | apply Look.there (hne := rfl) | exact Look.const | apply Look.mix rfl | exact Look.arg0 | apply Look.args | exact Look.func)) allLook_nil)), rfl, by omega⟩ ?_
  rintro i _ _ ⟨⟨u, rfl⟩, rfl, hi⟩; dsimp only [setL]
  refine JC.rs ?_
  refine Seq.p rfl Ev.lt ?_
  refine Seq.nil ?_
  refine JC.seq ?_
  first | refine JC.c (ht := fun c9 => ?_) (hf := fun c9 => ?_) | refine JC.cb (ht := fun c9 => ?_) (hf := fun c9 => ?_)
  · -- then_t9
    have hi2 : i < l.length := by omega
    have hg := isBytes_get hB hi2
    have hs := sumB_range (l.take i)
    have hsn := sumB_snoc hi2
    refine JC.skip ?_
    refine JC.seq ?_
    refine JC.blk ?_
    refine JC.rs ?_
    refine Seq.p rfl (Ev.iaN sl.sl_uint8 (hr := hr.r)) ?_
    refine Seq.p rfl (Ev.ldE1 sc.uint8 (hr := hr.r)) ?_
    refine Seq.p rfl Ev.assign ?_
    refine Seq.nil ?_
    refine JC.reg ?_
    refine Seq.p rfl Ev.move ?_
    refine Seq.p rfl Ev.move ?_
    refine Seq.p rfl Ev.addW ?_
    refine Seq.p rfl Ev.assign ?_
    refine Seq.nil ?_
    refine JC.reg ?_
    refine Seq.p rfl (by first | exact Ev.inc | exact Ev.add) ?_
    refine Seq.p rfl Ev.move ?_
    refine Seq.nil ?_
    exact ⟨i + 1, _, Part.refl _, ⟨Has.mk (by repeat (first | refine Off.upd ?_ rfl | exact Off.mix | refine Off.mix2 ?_ rfl | exact Off.refl)) (allLook_cons (look_int (by repeat (first | exact Look.here | apply Look.there (hne := rfl) | exact Look.const | apply Look.mix rfl | exact Look.arg0 | apply Look.args | exact Look.func)) (by rw [hsn]; first | rfl | rw [wrap_u8'])) (allLook_cons (by repeat (first | exact Look.here | apply Look.there (hne := rfl) | exact Look.const | apply Look.mix rfl | exact Look.arg0 | apply Look.args | exact Look.func)) allLook_nil)), rfl, by omega⟩, by omega⟩
  · -- else_t9
    obtain rfl : i = l.length := by omega
    have hs := sumB_range (l.take l.length)
    refine JC.exit ?_ -- 0
    refine JC.rs ?_
    refine Seq.p rfl Ev.move ?_
    refine Seq.p rfl (Ev.conv64 it.uint8 it.int) ?_
    refine Seq.p rfl Ev.assign ?_
    refine Seq.nil ?_
    refine JC.ret ?_
    -- return 0
    show retQ _ _ _ _ _ _ _ _
    refine ret1 (hp := Part.nil _) (hpost := ?_)
    rw [List.take_length]
set_option maxHeartbeats 1000000 in
set_option maxRecDepth 100000 in
theorem refSum {w : World} {v : Value} {l : List Int} (hr : RSl byteEnc 1 w [] v l) (hB : isBytes l) : Spec Go.Proofs.Tryd.prog 52 #[v] w [] (fun u _ => u = .int .i64 (sumB l)) := by
  have hsm := hr.small
  refine Spec.enter (fn := Go.Proofs.Tryd.f52) (n := 20) [v] Go.Proofs.Tryd.func52 (by kernel_rfl) rfl Go.Proofs.Tryd.ntmps52 Go.Proofs.Tryd.results52 rfl (Own.nil _) ?_
  refine JC.rs ?_
  refine Seq.p rfl Ev.assign ?_
  refine Seq.nil ?_
  refine JC.rs ?_
  refine Seq.p rfl Ev.assign ?_
  refine Seq.nil ?_
  refine JC.seq ?_
  refine JC.rs ?_
  refine Seq.p rfl Ev.assign ?_
  refine Seq.nil ?_
  refine JC.blk ?_
  refine JC.loop (α := Nat) (I := fun i e1 H1 => Has [3, 4, 5, 6, 7, 8, 9, 10, 11, 12, 13, 14, 15, 16, 17, 18] [(3, .int .i64 (sumB (l.take i))), (4, .int .i64 (i : Int))] _ e1 ∧ H1 = _ ∧ i ≤ l.length) (μ := fun i => l.length - i) 0 ⟨Has.mk Off.refl (allLook_cons (by repeat (first | exact Look.here | apply Look.there (hne := rfl) | exact Look.const | apply Look.mix rfl | exact Look.arg0 | apply Look.args | exact Look.func)) (allLook_cons (by repeat (first | exact Look.here | apply Look.there (hne := rfl) | exact Look.const | apply Look.mix rfl | exact Look.arg0 | apply Look.args | exact Look.func)) allLook_nil)), rfl, by omega⟩ ?_
  rintro i _ _ ⟨⟨u, rfl⟩, rfl, hi⟩; dsimp only [setL]
  refine JC.seq ?_
  refine JC.rs ?_
  refine Seq.p rfl Ev.move ?_
  refine Seq.p rfl Ev.move ?_
  refine Seq.p rfl (Ev.lenSl sl.sl_uint8 (hr := hr.r)) ?_
  refine Seq.p rfl Ev.lt ?_
  refine Seq.nil ?_
  first | refine JC.c (ht := fun c8 => ?_) (hf := fun c8 => ?_) | refine JC.cb (ht := fun c8 => ?_) (hf := fun c8 => ?_)
  · -- then_t8
    have hi2 : i < l.length := by omega
    have hg := isBytes_get hB hi2
    have hs := sumB_range (l.take i)
    have hsn := sumB_snoc hi2
    refine JC.skip ?_
    refine JC.seq ?_
    refine JC.blk ?_
    refine JC.reg ?_
    refine Seq.p rfl Ev.move ?_
    refine Seq.p rfl Ev.move ?_
    refine Seq.p rfl Ev.move ?_
    refine Seq.p rfl (Ev.iaN sl.sl_uint8 (hr := hr.r)) ?_
    refine Seq.p rfl (Ev.ldE1 sc.uint8 (hr := hr.r)) ?_
    refine Seq.p rfl (Ev.conv64 it.uint8 it.int) ?_
    refine Seq.p rfl Ev.add ?_
    refine Seq.p rfl Ev.rem ?_
    refine Seq.p rfl Ev.assign ?_
    refine Seq.nil ?_
    refine JC.reg ?_
    refine Seq.p rfl Ev.move ?_
    refine Seq.p rfl (by first | exact Ev.inc | exact Ev.add) ?_
    refine Seq.p rfl Ev.assign ?_
    refine Seq.nil ?_
    exact ⟨i + 1, _, Part.refl _, ⟨Has.mk (by repeat (first | refine Off.upd ?_ rfl | exact Off.mix | refine Off.mix2 ?_ rfl | exact Off.refl)) (allLook_cons (look_int (by repeat (first | exact Look.here | apply Look.there (hne := rfl) | exact Look.const | apply Look.mix rfl | exact Look.arg0 | apply Look.args | exact Look.func)) (by first | (rw [hsn]; done) | (rw [hsn]; omega))) (allLook_cons (by repeat (first | exact Look.here | apply Look.there (hne := rfl) | exact Look.const | apply Look.mix rfl | exact Look.arg0 | apply Look.args | exact Look.func)) allLook_nil)), rfl, by omega⟩, by omega⟩
  · -- else_t8
    obtain rfl : i = l.length := by omega
    refine JC.exit ?_ -- 0
    refine JC.rs ?_
    refine Seq.p rfl Ev.move ?_
    refine Seq.p rfl Ev.assign ?_
    refine Seq.nil ?_
    refine JC.ret ?_
    -- return 0
    show retQ _ _ _ _ _ _ _ _
    refine ret1 (hp := Part.nil _) (hpost := ?_)
    rw [List.take_length]
/-! kinds, values, tags -/
def alnum (c : Int) : Bool := (decide (65 ≤ c) && decide (c ≤ 90)) || (decide (97 ≤ c) && decide (c ≤ 122)) || (decide (48 ≤ c) && decide (c ≤ 57))
def kindB (s : ByteArray) : Bool := (decide (s.size = 1) || decide (s.size = 2)) && (bytesOf s).all alnum
def printB (c : Int) : Bool := decide (32 ≤ c) && decide (c ≤ 126)
def valueB (s : ByteArray) : Bool := decide (1 ≤ s.size) && (bytesOf s).all printB
def tagB (n : Int) : Bool := decide (1 ≤ n) && decide (n ≤ 9999) && decide (n ≠ 8) && decide (n ≠ 9) && decide (n ≠ 10) && decide (n ≠ 35)
theorem bytesOf_get {s : ByteArray} {i : Nat} (h : i < (bytesOf s).length) : (bytesOf s)[i] = bAt s i := by
  have h2 : i < s.data.toList.length := by rw [bytesOf_length] at h; simpa using h
  have e : (bytesOf s)[i]? = some (bAt s i) := by
    unfold bytesOf bAt
    rw [List.getElem?_map, List.getElem?_eq_getElem h2]
    rfl
  rw [List.getElem?_eq_getElem h] at e
  exact Option.some.inj e
theorem bytesOf_all {s : ByteArray} {p : Int → Bool} : (bytesOf s).all p = true ↔ ∀ i < s.size, p (bAt s i) = true := by
  have hl : (bytesOf s).length = s.size := bytesOf_length s
  rw [List.all_eq_true]
  constructor
  · intro h i hi
    rw [← bytesOf_get (s := s) (i := i) (by omega)]
    exact h _ (List.getElem_mem _)
  · intro h x hx
    obtain ⟨i, hi, rfl⟩ := List.getElem_of_mem hx
    rw [bytesOf_get hi]
    exact h i (by omega)
theorem bytesOf_notall {s : ByteArray} {p : Int → Bool} {i : Nat} (hi : i < s.size) (h : p (bAt s i) = false) : (bytesOf s).all p = false := by
  cases ha : (bytesOf s).all p with
  | false => rfl
  | true => rw [bytesOf_all.1 ha i hi] at h; cases h
set_option maxHeartbeats 1000000 in
set_option maxRecDepth 100000 in
theorem refKind {w : World} {s : ByteArray} (hsz : s.size ≤ 281474976710656) : Spec Go.Proofs.Tryd.prog 46 #[.string s] w [] (fun u _ => u = .bool (kindB s)) := by
  refine Spec.enter (fn := Go.Proofs.Tryd.f46) (n := 44) [.string s] Go.Proofs.Tryd.func46 (by kernel_rfl) rfl Go.Proofs.Tryd.ntmps46 Go.Proofs.Tryd.results46 rfl (Own.nil _) ?_
  refine JC.rs ?_
  refine Seq.p rfl Ev.assign ?_
  refine Seq.nil ?_
  refine JC.seq ?_
  refine JC.rs ?_
  refine Seq.p rfl Ev.assign ?_
  refine Seq.nil ?_
  refine JC.blk ?_
  refine JC.loop (α := Nat) (I := fun i e1 H1 => Has [2, 3, 4, 5, 6, 7, 8, 9, 10, 11, 12, 13, 14, 15, 16, 17, 18, 19, 20, 21, 22, 23, 24, 25, 26, 27, 28, 29, 30, 31, 32, 33, 34, 35] [(3, .int .i64 (i : Int))] _ e1 ∧ H1 = _ ∧ i ≤ s.size ∧ ∀ j < i, alnum (bAt s j) = true) (μ := fun i => s.size - i) 0 ⟨Has.mk Off.refl (allLook_cons (by repeat (first | exact Look.here | apply Look.there (hne := rfl) | exact Look.const | apply Look.mix rfl | exact Look.arg0 | apply Look.args | exact Look.func)) allLook_nil), rfl, by omega, by omega⟩ ?_
  rintro i _ _ ⟨⟨u, rfl⟩, rfl, hi, hno⟩; dsimp only [setL]
  refine JC.seq ?_
  refine JC.rs ?_
  refine Seq.p rfl Ev.move ?_
  refine Seq.p rfl Ev.move ?_
  refine Seq.p rfl (Ev.lenStr st.string) ?_
  refine Seq.p rfl Ev.lt ?_
  refine Seq.nil ?_
  first | refine JC.c (ht := fun c8 => ?_) (hf := fun c8 => ?_) | refine JC.cb (ht := fun c8 => ?_) (hf := fun c8 => ?_)
  · -- then_t8
    have hi2 : i < s.size := by omega
    refine JC.skip ?_
    refine JC.seq ?_
    refine JC.blk ?_
    refine JC.rs ?_
    refine Seq.p rfl Ev.move ?_
    refine Seq.p rfl Ev.move ?_
    refine Seq.p rfl (Ev.indexStr st.string) ?_
    refine Seq.p rfl Ev.assign ?_
    refine Seq.nil ?_
    refine JC.rs ?_
    refine Seq.p rfl Ev.move ?_
    refine Seq.p rfl Ev.lt ?_
    refine Seq.p rfl Ev.move ?_
    refine Seq.orG (D := [16, 17, 18, 19]) (d := 16) (t := 19) (k := 3) (hn := fun h16 => ?_) (hx := ?_)
    · repeat (first | refine Seq.gn rfl rfl rfl rfl ?_ | refine Seq.gu rfl rfl rfl ?_)
      refine Seq.p rfl Ev.pickT ?_
      exact Seq.nil ⟨rfl, (by repeat (first | with_reducible exact Off.refl | refine Off.upd ?_ rfl | exact Off.mix | refine Off.mix2 ?_ rfl)), Look.here⟩
    apply Exists.intro
    refine ⟨fun h16 => ?_, fun u19 => ?_⟩
    · try simp only [decide_eq_true_eq, decide_eq_false_iff_not, Bool.and_eq_true, Bool.or_eq_true, Bool.not_eq_true', Bool.not_eq_false', Bool.or_eq_false_iff, Bool.and_eq_false_imp] at h16
      refine Seq.gy rfl rfl rfl ?_
      refine Seq.p rfl Ev.move ?_
      refine Seq.gy rfl rfl rfl ?_
      refine Seq.p rfl Ev.gt ?_
      refine Seq.p rfl Ev.pickF ?_
      exact Seq.nil ⟨rfl, (by repeat (first | with_reducible exact Off.refl | refine Off.upd ?_ rfl | exact Off.mix | refine Off.mix2 ?_ rfl)), Look.here⟩
    refine Seq.p rfl Ev.move ?_
    refine Seq.andG (D := [20, 21, 22, 23, 24, 25, 26, 27]) (d := 20) (t := 27) (k := 7) (hn := fun h20 => ?_) (hx := ?_)
    · repeat (first | refine Seq.gn rfl rfl rfl rfl ?_ | refine Seq.gu rfl rfl rfl ?_)
      refine Seq.p rfl Ev.pickF ?_
      exact Seq.nil ⟨rfl, (by repeat (first | with_reducible exact Off.refl | refine Off.upd ?_ rfl | exact Off.mix | refine Off.mix2 ?_ rfl)), Look.here⟩
    apply Exists.intro
    refine ⟨fun h20 => ?_, fun u27 => ?_⟩
    · try simp only [decide_eq_true_eq, decide_eq_false_iff_not, Bool.and_eq_true, Bool.or_eq_true, Bool.not_eq_true', Bool.not_eq_false', Bool.or_eq_false_iff, Bool.and_eq_false_imp] at h20
      refine Seq.gy rfl rfl rfl ?_
      refine Seq.p rfl Ev.move ?_
      refine Seq.gy rfl rfl rfl ?_
      refine Seq.p rfl Ev.lt ?_
      refine Seq.gy rfl rfl rfl ?_
      refine Seq.p rfl Ev.move ?_
      refine Seq.orG (D := [23, 24, 25, 26]) (d := 23) (t := 26) (k := 3) (hn := fun h23 => ?_) (hx := ?_)
      · repeat (first | refine Seq.gn rfl rfl rfl rfl ?_ | refine Seq.gu rfl rfl rfl ?_)
        refine Seq.gy rfl rfl rfl ?_
        refine Seq.p rfl Ev.pickT ?_
        exact Seq.nil ⟨rfl, (by repeat (first | with_reducible exact Off.refl | refine Off.upd ?_ rfl | exact Off.mix | refine Off.mix2 ?_ rfl)), Look.here⟩
      apply Exists.intro
      refine ⟨fun h23 => ?_, fun u26 => ?_⟩
      · try simp only [decide_eq_true_eq, decide_eq_false_iff_not, Bool.and_eq_true, Bool.or_eq_true, Bool.not_eq_true', Bool.not_eq_false', Bool.or_eq_false_iff, Bool.and_eq_false_imp] at h23
        refine Seq.gy rfl rfl rfl ?_
        refine Seq.p rfl Ev.move ?_
        refine Seq.gy rfl rfl rfl ?_
        refine Seq.p rfl Ev.gt ?_
        refine Seq.gy rfl rfl rfl ?_
        refine Seq.p rfl Ev.pickF ?_
        exact Seq.nil ⟨rfl, (by repeat (first | with_reducible exact Off.refl | refine Off.upd ?_ rfl | exact Off.mix | refine Off.mix2 ?_ rfl)), Look.here⟩
      refine Seq.p rfl Ev.pickT ?_
      exact Seq.nil ⟨rfl, (by repeat (first | with_reducible exact Off.refl | refine Off.upd ?_ rfl | exact Off.mix | refine Off.mix2 ?_ rfl)), Look.here⟩
    refine Seq.p rfl Ev.move ?_
    refine Seq.andG (D := [28, 29, 30, 31, 32, 33, 34, 35]) (d := 28) (t := 35) (k := 7) (hn := fun h28 => ?_) (hx := ?_)
    · repeat (first | refine Seq.gn rfl rfl rfl rfl ?_ | refine Seq.gu rfl rfl rfl ?_)
      refine Seq.p rfl Ev.pickF ?_
      exact Seq.nil ⟨rfl, (by repeat (first | with_reducible exact Off.refl | refine Off.upd ?_ rfl | exact Off.mix | refine Off.mix2 ?_ rfl)), Look.here⟩
    apply Exists.intro
    refine ⟨fun h28 => ?_, fun u35 => ?_⟩
    · try simp only [decide_eq_true_eq, decide_eq_false_iff_not, Bool.and_eq_true, Bool.or_eq_true, Bool.not_eq_true', Bool.not_eq_false', Bool.or_eq_false_iff, Bool.and_eq_false_imp] at h28
      refine Seq.gy rfl rfl rfl ?_
      refine Seq.p rfl Ev.move ?_
      refine Seq.gy rfl rfl rfl ?_
      refine Seq.p rfl Ev.lt ?_
      refine Seq.gy rfl rfl rfl ?_
      refine Seq.p rfl Ev.move ?_
      refine Seq.orG (D := [31, 32, 33, 34]) (d := 31) (t := 34) (k := 3) (hn := fun h31 => ?_) (hx := ?_)
      · repeat (first | refine Seq.gn rfl rfl rfl rfl ?_ | refine Seq.gu rfl rfl rfl ?_)
        refine Seq.gy rfl rfl rfl ?_
        refine Seq.p rfl Ev.pickT ?_
        exact Seq.nil ⟨rfl, (by repeat (first | with_reducible exact Off.refl | refine Off.upd ?_ rfl | exact Off.mix | refine Off.mix2 ?_ rfl)), Look.here⟩
      apply Exists.intro
      refine ⟨fun h31 => ?_, fun u34 => ?_⟩
      · try simp only [decide_eq_true_eq, decide_eq_false_iff_not, Bool.and_eq_true, Bool.or_eq_true, Bool.not_eq_true', Bool.not_eq_false', Bool.or_eq_false_iff, Bool.and_eq_false_imp] at h31
        refine Seq.gy rfl rfl rfl ?_
        refine Seq.p rfl Ev.move ?_
        refine Seq.gy rfl rfl rfl ?_
        refine Seq.p rfl Ev.gt ?_
        refine Seq.gy rfl rfl rfl ?_
        refine Seq.p rfl Ev.pickF ?_
        exact Seq.nil ⟨rfl, (by repeat (first | with_reducible exact Off.refl | refine Off.upd ?_ rfl | exact Off.mix | refine Off.mix2 ?_ rfl)), Look.here⟩
      refine Seq.p rfl Ev.pickT ?_
      exact Seq.nil ⟨rfl, (by repeat (first | with_reducible exact Off.refl | refine Off.upd ?_ rfl | exact Off.mix | refine Off.mix2 ?_ rfl)), Look.here⟩
    refine Seq.nil ?_
    first | refine JC.c (ht := fun c35 => ?_) (hf := fun c35 => ?_) | refine JC.cb (ht := fun c35 => ?_) (hf := fun c35 => ?_)
    · -- then_t35
      refine JC.rs ?_
      refine Seq.p rfl Ev.assign ?_
      refine Seq.nil ?_
      refine JC.ret ?_
      -- return 0
      show retQ _ _ _ _ _ _ _ _
      refine ret1 (hp := Part.nil _) (hpost := ?_)
      have : alnum (bAt s i) = false := by simp only [Int.toNat_natCast] at c35; unfold alnum; simp only [Bool.or_eq_false_iff, Bool.and_eq_false_iff, Bool.and_eq_true, Bool.or_eq_true, decide_eq_true_eq, decide_eq_false_iff_not] at c35 ⊢; omega
      unfold kindB
      rw [bytesOf_notall hi2 this, Bool.and_false]
    · -- else_t35
      refine JC.skip ?_
      refine JC.reg ?_
      refine Seq.p rfl Ev.move ?_
      refine Seq.p rfl (by first | exact Ev.inc | exact Ev.add) ?_
      refine Seq.p rfl Ev.assign ?_
      refine Seq.nil ?_
      have hok : alnum (bAt s i) = true := by simp only [Int.toNat_natCast] at c35; unfold alnum; simp only [Bool.or_eq_false_iff, Bool.and_eq_false_iff, Bool.and_eq_true, Bool.or_eq_true, decide_eq_true_eq, decide_eq_false_iff_not] at c35 ⊢; omega
      refine ⟨i + 1, _, Part.refl _, ⟨Has.mk (by repeat (first | refine Off.upd ?_ rfl | exact Off.mix | refine Off.mix2 ?_ rfl | exact Off.refl)) (allLook_cons (by repeat (first | exact Look.here | apply Look.there (hne := rfl) | exact Look.const | apply Look.mix rfl | exact Look.arg0 | apply Look.args | exact Look.func)) allLook_nil), rfl, by omega, fun j hj => ?_⟩, by omega⟩
      by_cases h : j = i
      · rw [h]; exact hok
      · exact hno j (by omega)
  · -- else_t8
    refine JC.exit ?_ -- 0
    refine JC.rs ?_
    refine Seq.p rfl Ev.move ?_
    refine Seq.p rfl (Ev.lenStr st.string) ?_
    refine Seq.p rfl Ev.eq ?_
    refine Seq.p rfl Ev.move ?_
    refine Seq.orG (D := [39, 40, 41, 42, 43]) (d := 39) (t := 43) (k := 4) (hn := fun h39 => ?_) (hx := ?_)
    · repeat (first | refine Seq.gn rfl rfl rfl rfl ?_ | refine Seq.gu rfl rfl rfl ?_)
      refine Seq.p rfl Ev.pickT ?_
      exact Seq.nil ⟨rfl, (by repeat (first | with_reducible exact Off.refl | refine Off.upd ?_ rfl | exact Off.mix | refine Off.mix2 ?_ rfl)), Look.here⟩
    apply Exists.intro
    refine ⟨fun h39 => ?_, fun u43 => ?_⟩
    · try simp only [decide_eq_true_eq, decide_eq_false_iff_not, Bool.and_eq_true, Bool.or_eq_true, Bool.not_eq_true', Bool.not_eq_false', Bool.or_eq_false_iff, Bool.and_eq_false_imp] at h39
      refine Seq.gy rfl rfl rfl ?_
      refine Seq.p rfl Ev.move ?_
      refine Seq.gy rfl rfl rfl ?_
      refine Seq.p rfl (Ev.lenStr st.string) ?_
      refine Seq.gy rfl rfl rfl ?_
      refine Seq.p rfl Ev.eq ?_
      refine Seq.p rfl Ev.pickF ?_
      exact Seq.nil ⟨rfl, (by repeat (first | with_reducible exact Off.refl | refine Off.upd ?_ rfl | exact Off.mix | refine Off.mix2 ?_ rfl)), Look.here⟩
    refine Seq.p rfl Ev.assign ?_
    refine Seq.nil ?_
    refine JC.ret ?_
    -- return 1
    show retQ _ _ _ _ _ _ _ _
    refine ret1 (hp := Part.nil _) (hpost := ?_)
    have ha : (bytesOf s).all alnum = true := bytesOf_all.2 fun j hj => hno j (by omega)
    unfold kindB
    rw [ha, Bool.and_true]
    congr 1
    congr 1 <;> (rw [decide_eq_decide]; omega)
set_option maxHeartbeats 1000000 in
set_option maxRecDepth 100000 in
theorem textIsValue {w : World} {s : ByteArray} (hsz : s.size ≤ 281474976710656) : Spec Go.Proofs.Tryd.prog 69 #[.string s] w [] (fun u _ => u = .bool (valueB s)) := by
  refine Spec.enter (fn := Go.Proofs.Tryd.f69) (n := 23) [.string s] Go.Proofs.Tryd.func69 (by kernel_rfl) rfl Go.Proofs.Tryd.ntmps69 Go.Proofs.Tryd.results69 rfl (Own.nil _) ?_
  refine JC.rs ?_
  refine Seq.p rfl Ev.assign ?_
  refine Seq.nil ?_
  refine JC.seq ?_
  refine JC.rs ?_
  refine Seq.p rfl Ev.move ?_
  refine Seq.p rfl (Ev.lenStr st.string) ?_
  refine Seq.p rfl Ev.move ?_
  refine Seq.nil ?_
  refine JC.blk ?_
  refine JC.loop (α := Nat) (I := fun i e1 H1 => Has [2, 3, 6, 7, 8, 9, 10, 11, 12, 13, 14, 15, 16, 17, 18, 19] [(6, .int .i64 (i : Int))] _ e1 ∧ H1 = _ ∧ i ≤ s.size ∧ ∀ j < i, printB (bAt s j) = true) (μ := fun i => s.size - i) 0 ⟨Has.mk Off.refl (allLook_cons (by repeat (first | exact Look.here | apply Look.there (hne := rfl) | exact Look.const | apply Look.mix rfl | exact Look.arg0 | apply Look.args | exact Look.func)) allLook_nil), rfl, by omega, by omega⟩ ?_
  rintro i _ _ ⟨⟨u, rfl⟩, rfl, hi, hno⟩; dsimp only [setL]
  refine JC.rs ?_
  refine Seq.p rfl Ev.lt ?_
  refine Seq.nil ?_
  refine JC.seq ?_
  first | refine JC.c (ht := fun c7 => ?_) (hf := fun c7 => ?_) | refine JC.cb (ht := fun c7 => ?_) (hf := fun c7 => ?_)
  · -- then_t7
    have hi2 : i < s.size := by omega
    refine JC.skip ?_
    refine JC.seq ?_
    refine JC.blk ?_
    refine JC.rs ?_
    refine Seq.p rfl Ev.move ?_
    refine Seq.p rfl Ev.assign ?_
    refine Seq.nil ?_
    refine JC.rs ?_
    refine Seq.p rfl Ev.move ?_
    refine Seq.p rfl Ev.move ?_
    refine Seq.p rfl (Ev.indexStr st.string) ?_
    refine Seq.p rfl Ev.lt ?_
    refine Seq.p rfl Ev.move ?_
    refine Seq.orG (D := [13, 14, 15, 16, 17, 18]) (d := 13) (t := 18) (k := 5) (hn := fun h13 => ?_) (hx := ?_)
    · repeat (first | refine Seq.gn rfl rfl rfl rfl ?_ | refine Seq.gu rfl rfl rfl ?_)
      refine Seq.p rfl Ev.pickT ?_
      exact Seq.nil ⟨rfl, (by repeat (first | with_reducible exact Off.refl | refine Off.upd ?_ rfl | exact Off.mix | refine Off.mix2 ?_ rfl)), Look.here⟩
    apply Exists.intro
    refine ⟨fun h13 => ?_, fun u18 => ?_⟩
    · try simp only [decide_eq_true_eq, decide_eq_false_iff_not, Bool.and_eq_true, Bool.or_eq_true, Bool.not_eq_true', Bool.not_eq_false', Bool.or_eq_false_iff, Bool.and_eq_false_imp] at h13
      refine Seq.gy rfl rfl rfl ?_
      refine Seq.p rfl Ev.move ?_
      refine Seq.gy rfl rfl rfl ?_
      refine Seq.p rfl Ev.move ?_
      refine Seq.gy rfl rfl rfl ?_
      refine Seq.p rfl (Ev.indexStr st.string) ?_
      refine Seq.gy rfl rfl rfl ?_
      refine Seq.p rfl Ev.gt ?_
      refine Seq.p rfl Ev.pickF ?_
      exact Seq.nil ⟨rfl, (by repeat (first | with_reducible exact Off.refl | refine Off.upd ?_ rfl | exact Off.mix | refine Off.mix2 ?_ rfl)), Look.here⟩
    refine Seq.nil ?_
    first | refine JC.c (ht := fun c18 => ?_) (hf := fun c18 => ?_) | refine JC.cb (ht := fun c18 => ?_) (hf := fun c18 => ?_)
    · -- then_t18
      refine JC.rs ?_
      refine Seq.p rfl Ev.assign ?_
      refine Seq.nil ?_
      refine JC.ret ?_
      -- return 0
      show retQ _ _ _ _ _ _ _ _
      refine ret1 (hp := Part.nil _) (hpost := ?_)
      have : printB (bAt s i) = false := by simp only [Int.toNat_natCast] at c18; unfold printB; simp only [Bool.or_eq_false_iff, Bool.and_eq_false_iff, Bool.and_eq_true, Bool.or_eq_true, decide_eq_true_eq, decide_eq_false_iff_not] at c18 ⊢; omega
      unfold valueB
      rw [bytesOf_notall hi2 this, Bool.and_false]
    · -- else_t18
      refine JC.skip ?_
      refine JC.reg ?_
      refine Seq.p rfl (by first | exact Ev.inc | exact Ev.add) ?_
      refine Seq.p rfl Ev.move ?_
      refine Seq.nil ?_
      have hok : printB (bAt s i) = true := by simp only [Int.toNat_natCast] at c18; unfold printB; simp only [Bool.or_eq_false_iff, Bool.and_eq_false_iff, Bool.and_eq_true, Bool.or_eq_true, decide_eq_true_eq, decide_eq_false_iff_not] at c18 ⊢; omega
      refine ⟨i + 1, _, Part.refl _, ⟨Has.mk (by repeat (first | refine Off.upd ?_ rfl | exact Off.mix | refine Off.mix2 ?_ rfl | exact Off.refl)) (allLook_cons (by repeat (first | exact Look.here | apply Look.there (hne := rfl) | exact Look.const | apply Look.mix rfl | exact Look.arg0 | apply Look.args | exact Look.func)) allLook_nil), rfl, by omega, fun j hj => ?_⟩, by omega⟩
      by_cases h : j = i
      · rw [h]; exact hok
      · exact hno j (by omega)
  · -- else_t7
    refine JC.exit ?_ -- 0
    refine JC.rs ?_
    refine Seq.p rfl Ev.move ?_
    refine Seq.p rfl (Ev.lenStr st.string) ?_
    refine Seq.p rfl Ev.gt ?_
    refine Seq.p rfl Ev.assign ?_
    refine Seq.nil ?_
    refine JC.ret ?_
    -- return 1
    show retQ _ _ _ _ _ _ _ _
    refine ret1 (hp := Part.nil _) (hpost := ?_)
    have ha : (bytesOf s).all printB = true := bytesOf_all.2 fun j hj => hno j (by omega)
    unfold valueB
    rw [ha, Bool.and_true]
    congr 1
    rw [decide_eq_decide]
    omega
set_option maxHeartbeats 1000000 in
set_option maxRecDepth 100000 in
theorem refIsValue {w : World} {s : ByteArray} (hsz : s.size ≤ 281474976710656) : Spec Go.Proofs.Tryd.prog 49 #[.string s] w [] (fun u _ => u = .bool (valueB s)) := by
  refine Spec.enter (fn := Go.Proofs.Tryd.f49) (n := 23) [.string s] Go.Proofs.Tryd.func49 (by kernel_rfl) rfl Go.Proofs.Tryd.ntmps49 Go.Proofs.Tryd.results49 rfl (Own.nil _) ?_
  refine JC.rs ?_
  refine Seq.p rfl Ev.assign ?_
  refine Seq.nil ?_
  refine JC.seq ?_
  refine JC.rs ?_
  refine Seq.p rfl Ev.assign ?_
  refine Seq.nil ?_
  refine JC.blk ?_
  refine JC.loop (α := Nat) (I := fun i e1 H1 => Has [2, 3, 4, 5, 6, 7, 8, 9, 10, 11, 12, 13, 14, 15, 16, 17, 18, 19] [(3, .int .i64 (i : Int))] _ e1 ∧ H1 = _ ∧ i ≤ s.size ∧ ∀ j < i, printB (bAt s j) = true) (μ := fun i => s.size - i) 0 ⟨Has.mk Off.refl (allLook_cons (by repeat (first | exact Look.here | apply Look.there (hne := rfl) | exact Look.const | apply Look.mix rfl | exact Look.arg0 | apply Look.args | exact Look.func)) allLook_nil), rfl, by omega, by omega⟩ ?_
  rintro i _ _ ⟨⟨u, rfl⟩, rfl, hi, hno⟩; dsimp only [setL]
  refine JC.seq ?_
  refine JC.rs ?_
  refine Seq.p rfl Ev.move ?_
  refine Seq.p rfl Ev.move ?_
  refine Seq.p rfl (Ev.lenStr st.string) ?_
  refine Seq.p rfl Ev.lt ?_
  refine Seq.nil ?_
  first | refine JC.c (ht := fun c7 => ?_) (hf := fun c7 => ?_) | refine JC.cb (ht := fun c7 => ?_) (hf := fun c7 => ?_)
  · -- then_t7
    have hi2 : i < s.size := by omega
    refine JC.skip ?_
    refine JC.seq ?_
    refine JC.blk ?_
    refine JC.rs ?_
    refine Seq.p rfl Ev.move ?_
    refine Seq.p rfl Ev.move ?_
    refine Seq.p rfl (Ev.indexStr st.string) ?_
    refine Seq.p rfl Ev.lt ?_
    refine Seq.p rfl Ev.move ?_
    refine Seq.orG (D := [14, 15, 16, 17, 18, 19]) (d := 14) (t := 19) (k := 5) (hn := fun h14 => ?_) (hx := ?_)
    · repeat (first | refine Seq.gn rfl rfl rfl rfl ?_ | refine Seq.gu rfl rfl rfl ?_)
      refine Seq.p rfl Ev.pickT ?_
      exact Seq.nil ⟨rfl, (by repeat (first | with_reducible exact Off.refl | refine Off.upd ?_ rfl | exact Off.mix | refine Off.mix2 ?_ rfl)), Look.here⟩
    apply Exists.intro
    refine ⟨fun h14 => ?_, fun u19 => ?_⟩
    · try simp only [decide_eq_true_eq, decide_eq_false_iff_not, Bool.and_eq_true, Bool.or_eq_true, Bool.not_eq_true', Bool.not_eq_false', Bool.or_eq_false_iff, Bool.and_eq_false_imp] at h14
      refine Seq.gy rfl rfl rfl ?_
      refine Seq.p rfl Ev.move ?_
      refine Seq.gy rfl rfl rfl ?_
      refine Seq.p rfl Ev.move ?_
      refine Seq.gy rfl rfl rfl ?_
      refine Seq.p rfl (Ev.indexStr st.string) ?_
      refine Seq.gy rfl rfl rfl ?_
      refine Seq.p rfl Ev.gt ?_
      refine Seq.p rfl Ev.pickF ?_
      exact Seq.nil ⟨rfl, (by repeat (first | with_reducible exact Off.refl | refine Off.upd ?_ rfl | exact Off.mix | refine Off.mix2 ?_ rfl)), Look.here⟩
    refine Seq.nil ?_
    first | refine JC.c (ht := fun c19 => ?_) (hf := fun c19 => ?_) | refine JC.cb (ht := fun c19 => ?_) (hf := fun c19 => ?_)
    · -- then_t19
      refine JC.rs ?_
      refine Seq.p rfl Ev.assign ?_
      refine Seq.nil ?_
      refine JC.ret ?_
      -- return 0
      show retQ _ _ _ _ _ _ _ _
      refine ret1 (hp := Part.nil _) (hpost := ?_)
      have : printB (bAt s i) = false := by simp only [Int.toNat_natCast] at c19; unfold printB; simp only [Bool.or_eq_false_iff, Bool.and_eq_false_iff, Bool.and_eq_true, Bool.or_eq_true, decide_eq_true_eq, decide_eq_false_iff_not] at c19 ⊢; omega
      unfold valueB
      rw [bytesOf_notall hi2 this, Bool.and_false]
    · -- else_t19
      refine JC.skip ?_
      refine JC.reg ?_
      refine Seq.p rfl Ev.move ?_
      refine Seq.p rfl (by first | exact Ev.inc | exact Ev.add) ?_
      refine Seq.p rfl Ev.assign ?_
      refine Seq.nil ?_
      have hok : printB (bAt s i) = true := by simp only [Int.toNat_natCast] at c19; unfold printB; simp only [Bool.or_eq_false_iff, Bool.and_eq_false_iff, Bool.and_eq_true, Bool.or_eq_true, decide_eq_true_eq, decide_eq_false_iff_not] at c19 ⊢; omega
      refine ⟨i + 1, _, Part.refl _, ⟨Has.mk (by repeat (first | refine Off.upd ?_ rfl | exact Off.mix | refine Off.mix2 ?_ rfl | exact Off.refl)) (allLook_cons (by repeat (first | exact Look.here | apply Look.there (hne := rfl) | exact Look.const | apply Look.mix rfl | exact Look.arg0 | apply Look.args | exact Look.func)) allLook_nil), rfl, by omega, fun j hj => ?_⟩, by omega⟩
      by_cases h : j = i
      · rw [h]; exact hok
      · exact hno j (by omega)
  · -- else_t7
    refine JC.exit ?_ -- 0
    refine JC.rs ?_
    refine Seq.p rfl Ev.move ?_
    refine Seq.p rfl (Ev.lenStr st.string) ?_
    refine Seq.p rfl Ev.ge ?_
    refine Seq.p rfl Ev.assign ?_
    refine Seq.nil ?_
    refine JC.ret ?_
    -- return 1
    show retQ _ _ _ _ _ _ _ _
    refine ret1 (hp := Part.nil _) (hpost := ?_)
    have ha : (bytesOf s).all printB = true := bytesOf_all.2 fun j hj => hno j (by omega)
    unfold valueB
    rw [ha, Bool.and_true]
    congr 1
    rw [decide_eq_decide]
    omega
set_option maxHeartbeats 1000000 in
set_option maxRecDepth 100000 in
theorem refIsTag {w : World} {n : Int} : Spec Go.Proofs.Tryd.prog 47 #[.int .i64 n] w [] (fun u _ => u = .bool (tagB n)) := by
  refine Spec.enter (fn := Go.Proofs.Tryd.f47) (n := 25) [.int .i64 n] Go.Proofs.Tryd.func47 (by kernel_rfl) rfl Go.Proofs.Tryd.ntmps47 Go.Proofs.Tryd.results47 rfl (Own.nil _) ?_
  refine JC.rs ?_
  refine Seq.p rfl Ev.assign ?_
  refine Seq.nil ?_
  refine JC.rs ?_
  refine Seq.p rfl Ev.move ?_
  refine Seq.p rfl Ev.ge ?_
  refine Seq.p rfl Ev.move ?_
  refine Seq.andG (D := [5, 6, 7, 8]) (d := 5) (t := 8) (k := 3) (hn := fun h5 => ?_) (hx := ?_)
  · repeat (first | refine Seq.gn rfl rfl rfl rfl ?_ | refine Seq.gu rfl rfl rfl ?_)
    refine Seq.p rfl Ev.pickF ?_
    exact Seq.nil ⟨rfl, (by repeat (first | with_reducible exact Off.refl | refine Off.upd ?_ rfl | exact Off.mix | refine Off.mix2 ?_ rfl)), Look.here⟩
  apply Exists.intro
  refine ⟨fun h5 => ?_, fun u8 => ?_⟩
  · try simp only [decide_eq_true_eq, decide_eq_false_iff_not, Bool.and_eq_true, Bool.or_eq_true, Bool.not_eq_true', Bool.not_eq_false', Bool.or_eq_false_iff, Bool.and_eq_false_imp] at h5
    refine Seq.gy rfl rfl rfl ?_
    refine Seq.p rfl Ev.move ?_
    refine Seq.gy rfl rfl rfl ?_
    refine Seq.p rfl Ev.le ?_
    refine Seq.p rfl Ev.pickT ?_
    exact Seq.nil ⟨rfl, (by repeat (first | with_reducible exact Off.refl | refine Off.upd ?_ rfl | exact Off.mix | refine Off.mix2 ?_ rfl)), Look.here⟩
  refine Seq.p rfl Ev.move ?_
  refine Seq.andG (D := [9, 10, 11, 12]) (d := 9) (t := 12) (k := 3) (hn := fun h9 => ?_) (hx := ?_)
  · repeat (first | refine Seq.gn rfl rfl rfl rfl ?_ | refine Seq.gu rfl rfl rfl ?_)
    refine Seq.p rfl Ev.pickF ?_
    exact Seq.nil ⟨rfl, (by repeat (first | with_reducible exact Off.refl | refine Off.upd ?_ rfl | exact Off.mix | refine Off.mix2 ?_ rfl)), Look.here⟩
  apply Exists.intro
  refine ⟨fun h9 => ?_, fun u12 => ?_⟩
  · try simp only [decide_eq_true_eq, decide_eq_false_iff_not, Bool.and_eq_true, Bool.or_eq_true, Bool.not_eq_true', Bool.not_eq_false', Bool.or_eq_false_iff, Bool.and_eq_false_imp] at h9
    refine Seq.gy rfl rfl rfl ?_
    refine Seq.p rfl Ev.move ?_
    refine Seq.gy rfl rfl rfl ?_
    refine Seq.p rfl Ev.ne ?_
    refine Seq.p rfl Ev.pickT ?_
    exact Seq.nil ⟨rfl, (by repeat (first | with_reducible exact Off.refl | refine Off.upd ?_ rfl | exact Off.mix | refine Off.mix2 ?_ rfl)), Look.here⟩
  refine Seq.p rfl Ev.move ?_
  refine Seq.andG (D := [13, 14, 15, 16]) (d := 13) (t := 16) (k := 3) (hn := fun h13 => ?_) (hx := ?_)
  · repeat (first | refine Seq.gn rfl rfl rfl rfl ?_ | refine Seq.gu rfl rfl rfl ?_)
    refine Seq.p rfl Ev.pickF ?_
    exact Seq.nil ⟨rfl, (by repeat (first | with_reducible exact Off.refl | refine Off.upd ?_ rfl | exact Off.mix | refine Off.mix2 ?_ rfl)), Look.here⟩
  apply Exists.intro
  refine ⟨fun h13 => ?_, fun u16 => ?_⟩
  · try simp only [decide_eq_true_eq, decide_eq_false_iff_not, Bool.and_eq_true, Bool.or_eq_true, Bool.not_eq_true', Bool.not_eq_false', Bool.or_eq_false_iff, Bool.and_eq_false_imp] at h13
    refine Seq.gy rfl rfl rfl ?_
    refine Seq.p rfl Ev.move ?_
    refine Seq.gy rfl rfl rfl ?_
    refine Seq.p rfl Ev.ne ?_
    refine Seq.p rfl Ev.pickT ?_
    exact Seq.nil ⟨rfl, (by repeat (first | with_reducible exact Off.refl | refine Off.upd ?_ rfl | exact Off.mix | refine Off.mix2 ?_ rfl)), Look.here⟩
  refine Seq.p rfl Ev.move ?_
  refine Seq.andG (D := [17, 18, 19, 20]) (d := 17) (t := 20) (k := 3) (hn := fun h17 => ?_) (hx := ?_)
  · repeat (first | refine Seq.gn rfl rfl rfl rfl ?_ | refine Seq.gu rfl rfl rfl ?_)
    refine Seq.p rfl Ev.pickF ?_
    exact Seq.nil ⟨rfl, (by repeat (first | with_reducible exact Off.refl | refine Off.upd ?_ rfl | exact Off.mix | refine Off.mix2 ?_ rfl)), Look.here⟩
  apply Exists.intro
  refine ⟨fun h17 => ?_, fun u20 => ?_⟩
  · try simp only [decide_eq_true_eq, decide_eq_false_iff_not, Bool.and_eq_true, Bool.or_eq_true, Bool.not_eq_true', Bool.not_eq_false', Bool.or_eq_false_iff, Bool.and_eq_false_imp] at h17
    refine Seq.gy rfl rfl rfl ?_
    refine Seq.p rfl Ev.move ?_
    refine Seq.gy rfl rfl rfl ?_
    refine Seq.p rfl Ev.ne ?_
    refine Seq.p rfl Ev.pickT ?_
    exact Seq.nil ⟨rfl, (by repeat (first | with_reducible exact Off.refl | refine Off.upd ?_ rfl | exact Off.mix | refine Off.mix2 ?_ rfl)), Look.here⟩
  refine Seq.p rfl Ev.move ?_
  refine Seq.andG (D := [21, 22, 23, 24]) (d := 21) (t := 24) (k := 3) (hn := fun h21 => ?_) (hx := ?_)
  · repeat (first | refine Seq.gn rfl rfl rfl rfl ?_ | refine Seq.gu rfl rfl rfl ?_)
    refine Seq.p rfl Ev.pickF ?_
    exact Seq.nil ⟨rfl, (by repeat (first | with_reducible exact Off.refl | refine Off.upd ?_ rfl | exact Off.mix | refine Off.mix2 ?_ rfl)), Look.here⟩
  apply Exists.intro
  refine ⟨fun h21 => ?_, fun u24 => ?_⟩
  · try simp only [decide_eq_true_eq, decide_eq_false_iff_not, Bool.and_eq_true, Bool.or_eq_true, Bool.not_eq_true', Bool.not_eq_false', Bool.or_eq_false_iff, Bool.and_eq_false_imp] at h21
    refine Seq.gy rfl rfl rfl ?_
    refine Seq.p rfl Ev.move ?_
    refine Seq.gy rfl rfl rfl ?_
    refine Seq.p rfl Ev.ne ?_
    refine Seq.p rfl Ev.pickT ?_
    exact Seq.nil ⟨rfl, (by repeat (first | with_reducible exact Off.refl | refine Off.upd ?_ rfl | exact Off.mix | refine Off.mix2 ?_ rfl)), Look.here⟩
  refine Seq.p rfl Ev.assign ?_
  refine Seq.nil ?_
  refine JC.ret ?_
  -- return 0
  show retQ _ _ _ _ _ _ _ _
  refine ret1 (hp := Part.nil _) (hpost := ?_)
  rfl
def thereB (xs : List Tg) (n : Int) : Bool := xs.any fun t => decide (t.tag = n)
theorem thereB_hit {xs : List Tg} {n : Int} {i : Nat} (hi : i < xs.length) (h : (xs[i]!).tag = n) : thereB xs n = true := by
  unfold thereB
  rw [List.any_eq_true]
  exact ⟨xs[i], List.getElem_mem _, by rw [getElem!_pos xs i hi] at h; simpa using h⟩
theorem thereB_miss {xs : List Tg} {n : Int} (h : ∀ j < xs.length, (xs[j]!).tag ≠ n) : thereB xs n = false := by
  unfold thereB
  rw [List.any_eq_false]
  intro t ht
  obtain ⟨j, hj, rfl⟩ := List.getElem_of_mem ht
  have := h j hj
  rw [getElem!_pos xs j hj] at this
  simpa using this
set_option maxHeartbeats 1000000 in
set_option maxRecDepth 100000 in
theorem refThere {w : World} {v : Value} {xs : List Tg} {n : Int} (hr : RSl Tg.enc 2 w [] v xs) : Spec Go.Proofs.Tryd.prog 48 #[v, .int .i64 n] w [] (fun u _ => u = .bool (thereB xs n)) := by
  have hsm := hr.small
  refine Spec.enter (fn := Go.Proofs.Tryd.f48) (n := 19) [v, .int .i64 n] Go.Proofs.Tryd.func48 (by kernel_rfl) rfl Go.Proofs.Tryd.ntmps48 Go.Proofs.Tryd.results48 rfl (Own.nil _) ?_
  refine JC.rs ?_
  refine Seq.p rfl Ev.assign ?_
  refine Seq.nil ?_
  refine JC.seq ?_
  refine JC.rs ?_
  refine Seq.p rfl Ev.assign ?_
  refine Seq.nil ?_
  refine JC.blk ?_
  refine JC.loop (α := Nat) (I := fun i e1 H1 => Has [4, 5, 6, 7, 8, 9, 10, 11, 12, 13, 14, 15, 16, 17, 18] [(5, .int .i64 (i : Int))] _ e1 ∧ H1 = _ ∧ i ≤ xs.length ∧ ∀ j < i, (xs[j]!).tag ≠ n) (μ := fun i => xs.length - i) 0 ⟨Has.mk Off.refl (allLook_cons (by repeat (first | exact Look.here | apply Look.there (hne := rfl) | exact Look.const | apply Look.mix rfl | exact Look.arg0 | apply Look.args | exact Look.func)) allLook_nil), rfl, by omega, by omega⟩ ?_
  rintro i _ _ ⟨⟨u, rfl⟩, rfl, hi, hno⟩; dsimp only [setL]
  refine JC.seq ?_
  refine JC.rs ?_
  refine Seq.p rfl Ev.move ?_
  refine Seq.p rfl Ev.move ?_
  refine Seq.p rfl (Ev.lenSl sl.sl_api_Tag (hr := hr.r)) ?_
  refine Seq.p rfl Ev.lt ?_
  refine Seq.nil ?_
  first | refine JC.c (ht := fun c9 => ?_) (hf := fun c9 => ?_) | refine JC.cb (ht := fun c9 => ?_) (hf := fun c9 => ?_)
  · -- then_t9
    have hi2 : i < xs.length := by omega
    refine JC.skip ?_
    refine JC.seq ?_
    refine JC.blk ?_
    refine JC.rs ?_
    refine Seq.p rfl Ev.move ?_
    refine Seq.p rfl Ev.move ?_
    refine Seq.p rfl (Ev.iaN sl.sl_api_Tag (hr := hr.r)) ?_
    refine Seq.p rfl (Ev.fa fd.api_Tag_0) ?_
    refine Seq.p rfl (Ev.ldE sc.int (hr := hr.r)) ?_
    refine Seq.p rfl Ev.move ?_
    refine Seq.p rfl Ev.eq ?_
    refine Seq.nil ?_
    first | refine JC.c (ht := fun c18 => ?_) (hf := fun c18 => ?_) | refine JC.cb (ht := fun c18 => ?_) (hf := fun c18 => ?_)
    · -- then_t18
      refine JC.rs ?_
      refine Seq.p rfl Ev.assign ?_
      refine Seq.nil ?_
      refine JC.ret ?_
      -- return 0
      show retQ _ _ _ _ _ _ _ _
      refine ret1 (hp := Part.nil _) (hpost := ?_)
      rw [thereB_hit hi2 c18]
    · -- else_t18
      refine JC.skip ?_
      refine JC.reg ?_
      refine Seq.p rfl Ev.move ?_
      refine Seq.p rfl (by first | exact Ev.inc | exact Ev.add) ?_
      refine Seq.p rfl Ev.assign ?_
      refine Seq.nil ?_
      refine ⟨i + 1, _, Part.refl _, ⟨Has.mk (by repeat (first | refine Off.upd ?_ rfl | exact Off.mix | refine Off.mix2 ?_ rfl | exact Off.refl)) (allLook_cons (by repeat (first | exact Look.here | apply Look.there (hne := rfl) | exact Look.const | apply Look.mix rfl | exact Look.arg0 | apply Look.args | exact Look.func)) allLook_nil), rfl, by omega, fun j hj => ?_⟩, by omega⟩
      by_cases h : j = i
      · rw [h]; exact c18
      · exact hno j (by omega)
  · -- else_t9
    refine JC.exit ?_ -- 0
    refine JC.rs ?_
    refine Seq.p rfl Ev.assign ?_
    refine Seq.nil ?_
    refine JC.ret ?_
    -- return 1
    show retQ _ _ _ _ _ _ _ _
    refine ret1 (hp := Part.nil _) (hpost := ?_)
    rw [thereB_miss (fun j hj => hno j (by omega))]
end Go.Rx
/- The shelf's contracts at this program (written by the kit's tools lay-shelf and lay-plain; picked by shelf2.py). -/
namespace Go.Proofs
open Go.Shelf
open Go.RowKit in
/-- strconv.Atoi, AT EVERY STRING THAT SPELLS AN int ('Lib.atoiAll .. = .ok v'; of whatever length: leading zeros count): v, AND NO ERROR. The world: as it was, or with the one new row that '[]byte(..)' lays. (LAID: no walk: one application.) -/
theorem Tryd.strconv_Atoi_ok (s : ByteArray) (hmax : s.size ≤ 9223372036854775806) (v : Int) (h : Lib.atoiAll s.data.toList = .ok v) (w : World) :
    Calls Tryd.prog 88 #[.string s] w fun e w' => e = .returned (.tuple #[.int .i64 v, .nilIface]) ∧ (w' = w ∨ ∃ t, w' = Lib.bytesWorld w 5 t) := Any.strconv_Atoi_ok Tryd.laysC172 s hmax v h w
open Go.RowKit in
theorem Tryd.strconv_Atoi_syntax_var (s : ByteArray) (hlim : s.size ≤ 281474976710656) (h : Lib.atoiAll s.data.toList = Lib.atoiAll []) (tp : TypeId) (p : Value) (w : World) (hvar : w.var? Tryd.prog "strconv.ErrSyntax" = some #[.iface tp p]) :
    Calls Tryd.prog 88 #[.string s] w fun e w' => ∃ N, e = .returned (.tuple #[.int .i64 0, .iface 157 (.pointer (some ⟨N, 0, none⟩))]) ∧ w.heap.size ≤ N ∧ w'.heap[N]? = some (.cells #[.string ⟨#[65, 116, 111, 105]⟩, .string s, .iface tp p] 166 (0, 0)) ∧ Below w.heap.size w w' := Any.strconv_Atoi_syntax_var Tryd.laysC172 s hlim (h.trans rfl) tp p w hvar
def Tryd.lays219_ren : Go.Shelf.Ren := ⟨fun | 219 => 108 | 217 => 112 | 225 => 113 | 224 => 114 | 267 => 115 | 266 => 118 | 314 => 119 | n => n, fun | 9 => 9 | 3 => 3 | 4 => 4 | 5 => 5 | 46 => 77 | 146 => 174 | 51 => 23 | n => n, fun | 1 => 1 | n => n⟩
theorem Tryd.lays219 : Go.Proofs.Lays.n219 Tryd.prog Tryd.lays219_ren := {
  mixed := by kernel_rfl
  f217 := Tryd.func112.trans (congrArg some (by kernel_rfl))
  f219 := Tryd.func108.trans (congrArg some (by kernel_rfl))
  f224 := Tryd.func114.trans (congrArg some (by kernel_rfl))
  f225 := Tryd.func113.trans (congrArg some (by kernel_rfl))
  f266 := Tryd.func118.trans (congrArg some (by kernel_rfl))
  f267 := Tryd.func115.trans (congrArg some (by kernel_rfl))
  f314 := Tryd.func119.trans (congrArg some (by kernel_rfl))
  t3 := Tryd.underlying3
  a3 := Tryd.isAgg3
  z3 := Tryd.sizeOf3
  v3 := Tryd.zeroValue3
  t4 := Tryd.underlying4
  a4 := Tryd.isAgg4
  z4 := Tryd.sizeOf4
  v4 := Tryd.zeroValue4
  t5 := Tryd.underlying5
  a5 := Tryd.isAgg5
  z5 := Tryd.sizeOf5
  v5 := Tryd.zeroValue5
  t9 := Tryd.underlying9
  a9 := Tryd.isAgg9
  z9 := Tryd.sizeOf9
  v9 := Tryd.zeroValue9
  t46 := Tryd.underlying77
  a46 := Tryd.isAgg77
  z46 := Tryd.sizeOf77
  v46 := Tryd.zeroValue77
  t51 := Tryd.underlying23
  a51 := Tryd.isAgg23
  z51 := Tryd.sizeOf23
  v51 := Tryd.zeroValue23
  t146 := Tryd.underlying174
  a146 := Tryd.isAgg174
  z146 := Tryd.sizeOf174
  v146 := Tryd.zeroValue174
  g1 := by kernel_rfl }
open Go.RowKit Go.Lib in
/-- internal/stringslite.Index (what strings.Index calls) AT A substr OF ONE BYTE c: IT RETURNS 'Lib.indexByte s c'; the world is as it was. (LAID: no walk: one application.) -/
theorem Tryd.stringslite_Index_one (s : ByteArray) (c : UInt8) (w : World) :
    Calls Tryd.prog 108 #[.string s, .string ⟨#[c]⟩] w fun e w' => e = .returned (.int .i64 (Lib.indexByte s.data.toList c)) ∧ w' = w := Any.stringslite_Index_one Tryd.lays219 s c w
def Tryd.laysGw17_ren : Go.Shelf.Ren := ⟨fun | 17 => 64 | 15 => 79 | 20 => 91 | n => n, fun | 9 => 9 | 23 => 117 | 4 => 4 | 3 => 3 | 0 => 0 | 21 => 21 | n => n, fun | n => n⟩
theorem Tryd.laysGw17 : Go.Proofs.LaysGw.n17 Tryd.prog Tryd.laysGw17_ren := {
  mixed := by kernel_rfl
  f15 := Tryd.func79.trans (congrArg some (by kernel_rfl))
  f17 := Tryd.func64.trans (congrArg some (by kernel_rfl))
  f20 := Tryd.func91.trans (congrArg some (by kernel_rfl))
  t0 := Tryd.underlying0
  a0 := Tryd.isAgg0
  z0 := Tryd.sizeOf0
  v0 := Tryd.zeroValue0
  i0 := by kernel_rfl
  t3 := Tryd.underlying3
  a3 := Tryd.isAgg3
  z3 := Tryd.sizeOf3
  v3 := Tryd.zeroValue3
  i3 := by kernel_rfl
  t4 := Tryd.underlying4
  a4 := Tryd.isAgg4
  z4 := Tryd.sizeOf4
  v4 := Tryd.zeroValue4
  i4 := by kernel_rfl
  t9 := Tryd.underlying9
  a9 := Tryd.isAgg9
  z9 := Tryd.sizeOf9
  v9 := Tryd.zeroValue9
  i9 := by kernel_rfl
  t21 := Tryd.underlying21
  a21 := Tryd.isAgg21
  z21 := Tryd.sizeOf21
  v21 := Tryd.zeroValue21
  i21 := by kernel_rfl
  t23 := Tryd.underlying117
  a23 := Tryd.isAgg117
  z23 := Tryd.sizeOf117
  v23 := Tryd.zeroValue117
  i23 := by kernel_rfl }
open Go.RowKit Go.Lib in
theorem Tryd.strings_ContainsFunc_grows (g : Nat) (lb : Array Value) (eg : ∀ args w, (callFunc g args).run Tryd.prog w = .ok (.enter g args) w) (p : Nat → Bool) (s : ByteArray) (w : World) (hp : PredGrows Tryd.prog g lb p w) :
    Calls Tryd.prog 64 #[.string s, .func (.func g) #[] lb] w fun e w' => e = .returned (.bool (decide (0 ≤ Lib.idxFunc p true s))) ∧ Below w.heap.size w w' := Any.strings_ContainsFunc_grows Tryd.laysGw17 g lb eg p s w hp
def Tryd.lays107_ren : Go.Shelf.Ren := ⟨fun | 107 => 80 | 108 => 92 | n => n, fun | 28 => 129 | 3 => 3 | 4 => 4 | 0 => 0 | n => n, fun | n => n⟩
theorem Tryd.lays107 : Go.Proofs.Lays.n107 Tryd.prog Tryd.lays107_ren := {
  mixed := by kernel_rfl
  f107 := Tryd.func80.trans (congrArg some (by kernel_rfl))
  f108 := Tryd.func92.trans (congrArg some (by kernel_rfl))
  t0 := Tryd.underlying0
  a0 := Tryd.isAgg0
  z0 := Tryd.sizeOf0
  v0 := Tryd.zeroValue0
  t3 := Tryd.underlying3
  a3 := Tryd.isAgg3
  z3 := Tryd.sizeOf3
  v3 := Tryd.zeroValue3
  t4 := Tryd.underlying4
  a4 := Tryd.isAgg4
  z4 := Tryd.sizeOf4
  v4 := Tryd.zeroValue4
  t28 := Tryd.underlying129
  a28 := Tryd.isAgg129
  z28 := Tryd.sizeOf129
  v28 := Tryd.zeroValue129 }
open Go.Lib in
/-- slices.Contains at []int: "Contains reports whether v is present in s.": IT RETURNS 'elements.contains v'; the world is as it was. ITS CALLEE slices.Index IS MET BY ITS OWN CONTRACT OFF THE SHELF (lay that first): no loop is walked here. (LAID: no walk: one application.) -/
theorem Tryd.slices_Contains_int (b off n c : Nat) (zs : List Int) (x : Int) (w : World) (hz : n ≤ zs.length) (hbig : n ≤ 9223372036854775807) (hc : ∀ j, j < zs.length → w.cell? ⟨b, off + j, none⟩ = some (.int .i64 (zs.getD j 0))) :
    Calls Tryd.prog 80 #[.slice (some ⟨b, off, none⟩) n c, .int .i64 x] w fun e w' => e = .returned (.bool ((zs.take n).contains x)) ∧ w' = w := Any.slices_Contains_int Tryd.lays107 b off n c zs x w hz hbig hc
def Tryd.lays187_ren : Go.Shelf.Ren := ⟨fun | 187 => 77 | 255 => 89 | n => n, fun | 37 => 31 | 5 => 5 | 3 => 3 | n => n, fun | n => n⟩
theorem Tryd.lays187 : Go.Proofs.Lays.n187 Tryd.prog Tryd.lays187_ren := {
  mixed := by kernel_rfl
  f187 := Tryd.func77.trans (congrArg some (by kernel_rfl))
  f255 := Tryd.func89.trans (congrArg some (by kernel_rfl))
  t3 := Tryd.underlying3
  a3 := Tryd.isAgg3
  z3 := Tryd.sizeOf3
  v3 := Tryd.zeroValue3
  t5 := Tryd.underlying5
  a5 := Tryd.isAgg5
  z5 := Tryd.sizeOf5
  v5 := Tryd.zeroValue5
  t37 := Tryd.underlying31
  a37 := Tryd.isAgg31
  z37 := Tryd.sizeOf31
  v37 := Tryd.zeroValue31 }
open Go.RowKit Go.Lib in
/-- bytes.IndexByte, b at whatever address: "IndexByte returns the index of the first instance of c in b, or -1 if c is not present in b." (LAID: no walk: one application.) -/
theorem Tryd.bytes_IndexByte_at (a : Addr) (n c : Nat) (xs : List Int) (cv : Int) (w : World) (hx : xs.length = n) (hc : ∀ i, i < n → w.cell? (a.add i) = some (.int .u8 (xs.getD i 0))) :
    Calls Tryd.prog 77 #[.slice (some a) n c, .int .u8 cv] w fun e w' => e = .returned (.int .i64 (Lib.indexByte (Lib.bytesOf xs) cv.toNat.toUInt8)) ∧ w' = w := Any.bytes_IndexByte_at Tryd.lays187 a n c xs cv w hx hc
end Go.Proofs
