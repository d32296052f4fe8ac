/- Parts of the proof. -/
import Derived.Test.YtonoamdonmbkpaaPart1
import Derived.Laws.MakeOwn
import Derived.Laws.OwnMore
import Derived.Test.YtonoamdonmbkpaaRxL2
set_option linter.unusedVariables false
set_option linter.unusedSimpArgs false
/- The reference: the bar of trades, the bars. -/
namespace Go.Rx
open Go Go.RowKit
set_option linter.unusedVariables false
set_option linter.unusedSimpArgs false
theorem trd_get {l : List Event} {i : Nat} (hi : i < l.length) : (l.map Event.trd)[i]! = l[i]!.trd := by
  rw [getElem!_pos _ i (by rw [List.length_map]; exact hi), List.getElem_map, getElem!_pos l i hi]
def Bar.cells (b : Bar) (n : Nat) : List Value := [.int .i64 b.op, .int .i64 b.hi, .int .i64 b.lo, .int .i64 b.cl, .int .u64 (b.vol : Int), .int .i64 (n : Int)]
set_option maxHeartbeats 4000000 in
set_option maxRecDepth 100000 in
theorem refBar {w : World} {v : Value} {es : List Event} (he : RSl Event.enc 13 w [] v es) (hq : goodQ es) : Spec Go.Proofs.Try.prog 14 #[v] w [] (fun u _ => u = .agg (barF (es.map Event.trd)).enc.toArray) := by
  have hs := he.small
  have hend : (barF (es.map Event.trd)).cells es.length = (barF (es.map Event.trd)).enc := by
    have := barF_n (es.map Event.trd)
    rw [List.length_map] at this
    rw [Bar.cells, Bar.enc, this]
  refine Spec.enter (fn := Go.Proofs.Try.f14) (n := 52) [v] Go.Proofs.Try.func14 (by kernel_rfl) rfl Go.Proofs.Try.ntmps14 Go.Proofs.Try.results14 rfl (Own.nil _) ?_
  refine JC.rs ?_
  refine Seq.alloc (cs := [_, _, _, _, _, _]) (hz := z.api_Bar) (k := ?_); intro b2
  refine Seq.nil ?_
  refine JC.rs ?_
  refine Seq.p rfl Ev.move ?_
  refine Seq.p rfl (Ev.lenSl sl.sl_api_Event (hr := he.r)) ?_
  refine Seq.p rfl (Ev.buildN [_, _, _, _, _, _] pl.api_Bar z.api_Bar) ?_
  refine Seq.alloc (cs := [_, _, _, _, _, _]) (hz := z.api_Bar) (k := ?_); intro b3
  refine Seq.storeN [_, _, _, _, _, _] sz.api_Bar (k := ?_)
  refine Seq.nil ?_
  refine JC.seq ?_
  refine JC.rs ?_
  refine Seq.p rfl Ev.assign ?_
  refine Seq.nil ?_
  refine JC.blk ?_
  refine JC.loop (α := Nat) (I := fun i e1 H1 => Has [4, 5, 9, 10, 11, 12, 13, 14, 15, 16, 17, 18, 19, 20, 21, 22, 23, 24, 25, 26, 27, 28, 29, 30, 31, 32, 33, 34, 35, 36, 37, 38, 39, 40, 41, 42, 43, 44, 45, 46, 47, 48, 49, 50] [(4, .int .i64 (i : Int))] _ e1 ∧ H1 = [.box b3 30 ((barF ((es.map Event.trd).take i)).cells es.length), _] ∧ i ≤ es.length) (μ := fun i => es.length - i) 0 ⟨Has.mk Off.refl (allLook_cons (by repeat (first | exact Look.here | apply Look.there (hne := rfl) | exact Look.const | apply Look.mix rfl | exact Look.arg0 | apply Look.args | exact Look.func)) allLook_nil), rfl, by omega⟩ ?_
  rintro i _ _ ⟨⟨u, rfl⟩, rfl, hi⟩; dsimp only [setL]
  refine JC.seq ?_
  refine JC.rs ?_
  refine Seq.p rfl Ev.move ?_
  refine Seq.p rfl Ev.move ?_
  refine Seq.p rfl (Ev.lenSl sl.sl_api_Event (hr := he.r)) ?_
  refine Seq.p rfl Ev.lt ?_
  refine Seq.nil ?_
  first | refine JC.c (ht := fun c12 => ?_) (hf := fun c12 => ?_) | refine JC.cb (ht := fun c12 => ?_) (hf := fun c12 => ?_)
  · -- then_t12
    have hi2 : i < es.length := by omega
    have hn := barF_n ((es.map Event.trd).take i)
    rw [List.length_take, List.length_map, Nat.min_eq_left hi] at hn
    have hst := barF_take (l := es.map Event.trd) (i := i) (by rw [List.length_map]; exact hi2)
    rw [trd_get hi2] at hst
    have hqi : 0 ≤ es[i]!.qty := by rw [getElem!_pos es i hi2]; exact (hq _ (List.getElem_mem hi2)).1
    have hqn : ((es[i]!.qty.toNat : Nat) : Int) = es[i]!.qty := Int.toNat_of_nonneg hqi
    obtain ⟨b, hb⟩ : ∃ b, b = barF ((es.map Event.trd).take i) := ⟨_, rfl⟩
    rw [← hb] at hst hn ⊢
    refine JC.skip ?_
    refine JC.seq ?_
    refine JC.blk ?_
    refine JC.rs ?_
    refine Seq.p rfl Ev.move ?_
    refine Seq.p rfl Ev.move ?_
    refine Seq.p rfl (Ev.iaN sl.sl_api_Event (hr := he.r)) ?_
    refine Seq.p rfl (Ev.fa fd.api_Event_8) ?_
    refine Seq.p rfl (Ev.ldE sc.int (hr := he.r)) ?_
    refine Seq.p rfl Ev.assign ?_
    refine Seq.nil ?_
    refine JC.seq ?_
    refine JC.rs ?_
    refine Seq.p rfl Ev.move ?_
    refine Seq.p rfl Ev.eq ?_
    refine Seq.nil ?_
    first | refine JC.c (ht := fun c21 => ?_) (hf := fun c21 => ?_) | refine JC.cb (ht := fun c21 => ?_) (hf := fun c21 => ?_)
    · -- then_t21
      have h0 : b.n = 0 := by omega
      have hz : b.vol = 0 := by rw [hb, show i = 0 by omega]; rfl
      refine JC.reg ?_
      refine Seq.p rfl Ev.move ?_
      refine Seq.p rfl Ev.move ?_
      refine Seq.p rfl Ev.move ?_
      refine Seq.p rfl (Ev.faB fd.api_Bar_0) ?_
      refine Seq.storeN [_, _, _, _, _, _] sz.int (k := ?_)
      refine Seq.p rfl (Ev.faB fd.api_Bar_1) ?_
      refine Seq.storeN [_, _, _, _, _, _] sz.int (k := ?_)
      refine Seq.p rfl (Ev.faB fd.api_Bar_2) ?_
      refine Seq.storeN [_, _, _, _, _, _] sz.int (k := ?_)
      refine Seq.nil ?_
      refine JC.seq ?_
      refine JC.rs ?_
      refine Seq.p rfl Ev.move ?_
      refine Seq.p rfl (Ev.faB fd.api_Bar_1) ?_
      refine Seq.p rfl (Ev.ldB sc.int) ?_
      refine Seq.p rfl Ev.gt ?_
      refine Seq.nil ?_
      first | refine JC.c (ht := fun c31 => ?_) (hf := fun c31 => ?_) | refine JC.cb (ht := fun c31 => ?_) (hf := fun c31 => ?_)
      · -- then_t31
        refine JC.reg ?_
        refine Seq.p rfl Ev.move ?_
        refine Seq.p rfl (Ev.faB fd.api_Bar_1) ?_
        refine Seq.storeN [_, _, _, _, _, _] sz.int (k := ?_)
        refine Seq.nil ?_
        refine JC.seq ?_
        refine JC.rs ?_
        refine Seq.p rfl Ev.move ?_
        refine Seq.p rfl (Ev.faB fd.api_Bar_2) ?_
        refine Seq.p rfl (Ev.ldB sc.int) ?_
        refine Seq.p rfl Ev.lt ?_
        refine Seq.nil ?_
        first | refine JC.c (ht := fun c37 => ?_) (hf := fun c37 => ?_) | refine JC.cb (ht := fun c37 => ?_) (hf := fun c37 => ?_)
        · -- then_t37
          refine JC.reg ?_
          refine Seq.p rfl Ev.move ?_
          refine Seq.p rfl (Ev.faB fd.api_Bar_2) ?_
          refine Seq.storeN [_, _, _, _, _, _] sz.int (k := ?_)
          refine Seq.nil ?_
          refine JC.rs ?_
          refine Seq.p rfl Ev.move ?_
          refine Seq.p rfl (Ev.faB fd.api_Bar_3) ?_
          refine Seq.storeN [_, _, _, _, _, _] sz.int (k := ?_)
          refine Seq.nil ?_
          refine JC.anyE 0 mixed ?_
          refine Any.p 0 rfl (by kernel_rfl) (by kernel_rfl) (by kernel_rfl) rfl (Ev.faB fd.api_Bar_4) ?_
          refine Any.p 2 rfl (by kernel_rfl) (by kernel_rfl) (by kernel_rfl) rfl Ev.move ?_
          refine Any.p 3 rfl (by kernel_rfl) (by kernel_rfl) (by kernel_rfl) rfl Ev.move ?_
          refine Any.p 4 rfl (by kernel_rfl) (by kernel_rfl) (by kernel_rfl) rfl (Ev.iaN sl.sl_api_Event (hr := he.r)) ?_
          refine Any.p 5 rfl (by kernel_rfl) (by kernel_rfl) (by kernel_rfl) rfl (Ev.fa fd.api_Event_9) ?_
          refine Any.p 6 rfl (by kernel_rfl) (by kernel_rfl) (by kernel_rfl) rfl (Ev.ldE sc.uint64 (hr := he.r)) ?_
          refine Any.one 1 rfl (by kernel_rfl) ?_
          refine Seq.p rfl (Ev.ldB sc.uint64) ?_
          refine Seq.nil ⟨(by repeat (first | exact Part.refl _ | exact Part.nil _ | apply Part.here | apply Part.skip)), ?_⟩
          refine Any.p 7 rfl (by kernel_rfl) (by kernel_rfl) (by kernel_rfl) rfl Ev.addU ?_
          refine Any.p 8 rfl (by kernel_rfl) (by kernel_rfl) (by kernel_rfl) rfl (Ev.faB fd.api_Bar_4) ?_
          refine Any.one 9 rfl (by kernel_rfl) ?_
          refine Seq.storeN [_, _, _, _, _, _] sz.uint64 (k := ?_)
          refine Seq.nil ⟨(by repeat (first | exact Part.refl _ | exact Part.nil _ | apply Part.here | apply Part.skip)), ?_⟩
          refine Any.done (by kernel_rfl) ?_
          refine JC.reg ?_
          refine Seq.p rfl Ev.move ?_
          refine Seq.p rfl (by first | exact Ev.inc | exact Ev.add) ?_
          refine Seq.p rfl Ev.assign ?_
          refine Seq.nil ?_
          refine ⟨i + 1, _, Part.refl _, ⟨Has.mk (by repeat (first | refine Off.upd ?_ rfl | exact Off.mix | refine Off.mix2 ?_ rfl | exact Off.refl)) (allLook_cons (by repeat (first | exact Look.here | apply Look.there (hne := rfl) | exact Look.const | apply Look.mix rfl | exact Look.arg0 | apply Look.args | exact Look.func)) allLook_nil), ?_, by omega⟩, by omega⟩
          rw [hst]
          generalize es[i]! = e at hqi hqn c31 c37 ⊢
          first | (simp [barStep, Bar.cells, Event.trd, h0, hz]; omega) | (simp [barStep, Bar.cells, Event.trd, h0]; omega)
        · -- else_t37
          refine JC.skip ?_
          refine JC.rs ?_
          refine Seq.p rfl Ev.move ?_
          refine Seq.p rfl (Ev.faB fd.api_Bar_3) ?_
          refine Seq.storeN [_, _, _, _, _, _] sz.int (k := ?_)
          refine Seq.nil ?_
          refine JC.anyE 0 mixed ?_
          refine Any.p 0 rfl (by kernel_rfl) (by kernel_rfl) (by kernel_rfl) rfl (Ev.faB fd.api_Bar_4) ?_
          refine Any.p 2 rfl (by kernel_rfl) (by kernel_rfl) (by kernel_rfl) rfl Ev.move ?_
          refine Any.p 3 rfl (by kernel_rfl) (by kernel_rfl) (by kernel_rfl) rfl Ev.move ?_
          refine Any.p 4 rfl (by kernel_rfl) (by kernel_rfl) (by kernel_rfl) rfl (Ev.iaN sl.sl_api_Event (hr := he.r)) ?_
          refine Any.p 5 rfl (by kernel_rfl) (by kernel_rfl) (by kernel_rfl) rfl (Ev.fa fd.api_Event_9) ?_
          refine Any.p 6 rfl (by kernel_rfl) (by kernel_rfl) (by kernel_rfl) rfl (Ev.ldE sc.uint64 (hr := he.r)) ?_
          refine Any.one 1 rfl (by kernel_rfl) ?_
          refine Seq.p rfl (Ev.ldB sc.uint64) ?_
          refine Seq.nil ⟨(by repeat (first | exact Part.refl _ | exact Part.nil _ | apply Part.here | apply Part.skip)), ?_⟩
          refine Any.p 7 rfl (by kernel_rfl) (by kernel_rfl) (by kernel_rfl) rfl Ev.addU ?_
          refine Any.p 8 rfl (by kernel_rfl) (by kernel_rfl) (by kernel_rfl) rfl (Ev.faB fd.api_Bar_4) ?_
          refine Any.one 9 rfl (by kernel_rfl) ?_
          refine Seq.storeN [_, _, _, _, _, _] sz.uint64 (k := ?_)
          refine Seq.nil ⟨(by repeat (first | exact Part.refl _ | exact Part.nil _ | apply Part.here | apply Part.skip)), ?_⟩
          refine Any.done (by kernel_rfl) ?_
          refine JC.reg ?_
          refine Seq.p rfl Ev.move ?_
          refine Seq.p rfl (by first | exact Ev.inc | exact Ev.add) ?_
          refine Seq.p rfl Ev.assign ?_
          refine Seq.nil ?_
          refine ⟨i + 1, _, Part.refl _, ⟨Has.mk (by repeat (first | refine Off.upd ?_ rfl | exact Off.mix | refine Off.mix2 ?_ rfl | exact Off.refl)) (allLook_cons (by repeat (first | exact Look.here | apply Look.there (hne := rfl) | exact Look.const | apply Look.mix rfl | exact Look.arg0 | apply Look.args | exact Look.func)) allLook_nil), ?_, by omega⟩, by omega⟩
          rw [hst]
          generalize es[i]! = e at hqi hqn c31 c37 ⊢
          first | (simp [barStep, Bar.cells, Event.trd, h0, hz]; omega) | (simp [barStep, Bar.cells, Event.trd, h0]; omega)
      · -- else_t31
        refine JC.skip ?_
        refine JC.seq ?_
        refine JC.rs ?_
        refine Seq.p rfl Ev.move ?_
        refine Seq.p rfl (Ev.faB fd.api_Bar_2) ?_
        refine Seq.p rfl (Ev.ldB sc.int) ?_
        refine Seq.p rfl Ev.lt ?_
        refine Seq.nil ?_
        first | refine JC.c (ht := fun c37 => ?_) (hf := fun c37 => ?_) | refine JC.cb (ht := fun c37 => ?_) (hf := fun c37 => ?_)
        · -- then_t37
          refine JC.reg ?_
          refine Seq.p rfl Ev.move ?_
          refine Seq.p rfl (Ev.faB fd.api_Bar_2) ?_
          refine Seq.storeN [_, _, _, _, _, _] sz.int (k := ?_)
          refine Seq.nil ?_
          refine JC.rs ?_
          refine Seq.p rfl Ev.move ?_
          refine Seq.p rfl (Ev.faB fd.api_Bar_3) ?_
          refine Seq.storeN [_, _, _, _, _, _] sz.int (k := ?_)
          refine Seq.nil ?_
          refine JC.anyE 0 mixed ?_
          refine Any.p 0 rfl (by kernel_rfl) (by kernel_rfl) (by kernel_rfl) rfl (Ev.faB fd.api_Bar_4) ?_
          refine Any.p 2 rfl (by kernel_rfl) (by kernel_rfl) (by kernel_rfl) rfl Ev.move ?_
          refine Any.p 3 rfl (by kernel_rfl) (by kernel_rfl) (by kernel_rfl) rfl Ev.move ?_
          refine Any.p 4 rfl (by kernel_rfl) (by kernel_rfl) (by kernel_rfl) rfl (Ev.iaN sl.sl_api_Event (hr := he.r)) ?_
          refine Any.p 5 rfl (by kernel_rfl) (by kernel_rfl) (by kernel_rfl) rfl (Ev.fa fd.api_Event_9) ?_
          refine Any.p 6 rfl (by kernel_rfl) (by kernel_rfl) (by kernel_rfl) rfl (Ev.ldE sc.uint64 (hr := he.r)) ?_
          refine Any.one 1 rfl (by kernel_rfl) ?_
          refine Seq.p rfl (Ev.ldB sc.uint64) ?_
          refine Seq.nil ⟨(by repeat (first | exact Part.refl _ | exact Part.nil _ | apply Part.here | apply Part.skip)), ?_⟩
          refine Any.p 7 rfl (by kernel_rfl) (by kernel_rfl) (by kernel_rfl) rfl Ev.addU ?_
          refine Any.p 8 rfl (by kernel_rfl) (by kernel_rfl) (by kernel_rfl) rfl (Ev.faB fd.api_Bar_4) ?_
          refine Any.one 9 rfl (by kernel_rfl) ?_
          refine Seq.storeN [_, _, _, _, _, _] sz.uint64 (k := ?_)
          refine Seq.nil ⟨(by repeat (first | exact Part.refl _ | exact Part.nil _ | apply Part.here | apply Part.skip)), ?_⟩
          refine Any.done (by kernel_rfl) ?_
          refine JC.reg ?_
          refine Seq.p rfl Ev.move ?_
          refine Seq.p rfl (by first | exact Ev.inc | exact Ev.add) ?_
          refine Seq.p rfl Ev.assign ?_
          refine Seq.nil ?_
          refine ⟨i + 1, _, Part.refl _, ⟨Has.mk (by repeat (first | refine Off.upd ?_ rfl | exact Off.mix | refine Off.mix2 ?_ rfl | exact Off.refl)) (allLook_cons (by repeat (first | exact Look.here | apply Look.there (hne := rfl) | exact Look.const | apply Look.mix rfl | exact Look.arg0 | apply Look.args | exact Look.func)) allLook_nil), ?_, by omega⟩, by omega⟩
          rw [hst]
          generalize es[i]! = e at hqi hqn c31 c37 ⊢
          first | (simp [barStep, Bar.cells, Event.trd, h0, hz]; omega) | (simp [barStep, Bar.cells, Event.trd, h0]; omega)
        · -- else_t37
          refine JC.skip ?_
          refine JC.rs ?_
          refine Seq.p rfl Ev.move ?_
          refine Seq.p rfl (Ev.faB fd.api_Bar_3) ?_
          refine Seq.storeN [_, _, _, _, _, _] sz.int (k := ?_)
          refine Seq.nil ?_
          refine JC.anyE 0 mixed ?_
          refine Any.p 0 rfl (by kernel_rfl) (by kernel_rfl) (by kernel_rfl) rfl (Ev.faB fd.api_Bar_4) ?_
          refine Any.p 2 rfl (by kernel_rfl) (by kernel_rfl) (by kernel_rfl) rfl Ev.move ?_
          refine Any.p 3 rfl (by kernel_rfl) (by kernel_rfl) (by kernel_rfl) rfl Ev.move ?_
          refine Any.p 4 rfl (by kernel_rfl) (by kernel_rfl) (by kernel_rfl) rfl (Ev.iaN sl.sl_api_Event (hr := he.r)) ?_
          refine Any.p 5 rfl (by kernel_rfl) (by kernel_rfl) (by kernel_rfl) rfl (Ev.fa fd.api_Event_9) ?_
          refine Any.p 6 rfl (by kernel_rfl) (by kernel_rfl) (by kernel_rfl) rfl (Ev.ldE sc.uint64 (hr := he.r)) ?_
          refine Any.one 1 rfl (by kernel_rfl) ?_
          refine Seq.p rfl (Ev.ldB sc.uint64) ?_
          refine Seq.nil ⟨(by repeat (first | exact Part.refl _ | exact Part.nil _ | apply Part.here | apply Part.skip)), ?_⟩
          refine Any.p 7 rfl (by kernel_rfl) (by kernel_rfl) (by kernel_rfl) rfl Ev.addU ?_
          refine Any.p 8 rfl (by kernel_rfl) (by kernel_rfl) (by kernel_rfl) rfl (Ev.faB fd.api_Bar_4) ?_
          refine Any.one 9 rfl (by kernel_rfl) ?_
          refine Seq.storeN [_, _, _, _, _, _] sz.uint64 (k := ?_)
          refine Seq.nil ⟨(by repeat (first | exact Part.refl _ | exact Part.nil _ | apply Part.here | apply Part.skip)), ?_⟩
          refine Any.done (by kernel_rfl) ?_
          refine JC.reg ?_
          refine Seq.p rfl Ev.move ?_
          refine Seq.p rfl (by first | exact Ev.inc | exact Ev.add) ?_
          refine Seq.p rfl Ev.assign ?_
          refine Seq.nil ?_
          refine ⟨i + 1, _, Part.refl _, ⟨Has.mk (by repeat (first | refine Off.upd ?_ rfl | exact Off.mix | refine Off.mix2 ?_ rfl | exact Off.refl)) (allLook_cons (by repeat (first | exact Look.here | apply Look.there (hne := rfl) | exact Look.const | apply Look.mix rfl | exact Look.arg0 | apply Look.args | exact Look.func)) allLook_nil), ?_, by omega⟩, by omega⟩
          rw [hst]
          generalize es[i]! = e at hqi hqn c31 c37 ⊢
          first | (simp [barStep, Bar.cells, Event.trd, h0, hz]; omega) | (simp [barStep, Bar.cells, Event.trd, h0]; omega)
    · -- else_t21
      have h0 : ¬ b.n = 0 := by omega
      refine JC.skip ?_
      refine JC.seq ?_
      refine JC.rs ?_
      refine Seq.p rfl Ev.move ?_
      refine Seq.p rfl (Ev.faB fd.api_Bar_1) ?_
      refine Seq.p rfl (Ev.ldB sc.int) ?_
      refine Seq.p rfl Ev.gt ?_
      refine Seq.nil ?_
      first | refine JC.c (ht := fun c31 => ?_) (hf := fun c31 => ?_) | refine JC.cb (ht := fun c31 => ?_) (hf := fun c31 => ?_)
      · -- then_t31
        refine JC.reg ?_
        refine Seq.p rfl Ev.move ?_
        refine Seq.p rfl (Ev.faB fd.api_Bar_1) ?_
        refine Seq.storeN [_, _, _, _, _, _] sz.int (k := ?_)
        refine Seq.nil ?_
        refine JC.seq ?_
        refine JC.rs ?_
        refine Seq.p rfl Ev.move ?_
        refine Seq.p rfl (Ev.faB fd.api_Bar_2) ?_
        refine Seq.p rfl (Ev.ldB sc.int) ?_
        refine Seq.p rfl Ev.lt ?_
        refine Seq.nil ?_
        first | refine JC.c (ht := fun c37 => ?_) (hf := fun c37 => ?_) | refine JC.cb (ht := fun c37 => ?_) (hf := fun c37 => ?_)
        · -- then_t37
          refine JC.reg ?_
          refine Seq.p rfl Ev.move ?_
          refine Seq.p rfl (Ev.faB fd.api_Bar_2) ?_
          refine Seq.storeN [_, _, _, _, _, _] sz.int (k := ?_)
          refine Seq.nil ?_
          refine JC.rs ?_
          refine Seq.p rfl Ev.move ?_
          refine Seq.p rfl (Ev.faB fd.api_Bar_3) ?_
          refine Seq.storeN [_, _, _, _, _, _] sz.int (k := ?_)
          refine Seq.nil ?_
          refine JC.anyE 0 mixed ?_
          refine Any.p 0 rfl (by kernel_rfl) (by kernel_rfl) (by kernel_rfl) rfl (Ev.faB fd.api_Bar_4) ?_
          refine Any.p 2 rfl (by kernel_rfl) (by kernel_rfl) (by kernel_rfl) rfl Ev.move ?_
          refine Any.p 3 rfl (by kernel_rfl) (by kernel_rfl) (by kernel_rfl) rfl Ev.move ?_
          refine Any.p 4 rfl (by kernel_rfl) (by kernel_rfl) (by kernel_rfl) rfl (Ev.iaN sl.sl_api_Event (hr := he.r)) ?_
          refine Any.p 5 rfl (by kernel_rfl) (by kernel_rfl) (by kernel_rfl) rfl (Ev.fa fd.api_Event_9) ?_
          refine Any.p 6 rfl (by kernel_rfl) (by kernel_rfl) (by kernel_rfl) rfl (Ev.ldE sc.uint64 (hr := he.r)) ?_
          refine Any.one 1 rfl (by kernel_rfl) ?_
          refine Seq.p rfl (Ev.ldB sc.uint64) ?_
          refine Seq.nil ⟨(by repeat (first | exact Part.refl _ | exact Part.nil _ | apply Part.here | apply Part.skip)), ?_⟩
          refine Any.p 7 rfl (by kernel_rfl) (by kernel_rfl) (by kernel_rfl) rfl Ev.addU ?_
          refine Any.p 8 rfl (by kernel_rfl) (by kernel_rfl) (by kernel_rfl) rfl (Ev.faB fd.api_Bar_4) ?_
          refine Any.one 9 rfl (by kernel_rfl) ?_
          refine Seq.storeN [_, _, _, _, _, _] sz.uint64 (k := ?_)
          refine Seq.nil ⟨(by repeat (first | exact Part.refl _ | exact Part.nil _ | apply Part.here | apply Part.skip)), ?_⟩
          refine Any.done (by kernel_rfl) ?_
          refine JC.reg ?_
          refine Seq.p rfl Ev.move ?_
          refine Seq.p rfl (by first | exact Ev.inc | exact Ev.add) ?_
          refine Seq.p rfl Ev.assign ?_
          refine Seq.nil ?_
          refine ⟨i + 1, _, Part.refl _, ⟨Has.mk (by repeat (first | refine Off.upd ?_ rfl | exact Off.mix | refine Off.mix2 ?_ rfl | exact Off.refl)) (allLook_cons (by repeat (first | exact Look.here | apply Look.there (hne := rfl) | exact Look.const | apply Look.mix rfl | exact Look.arg0 | apply Look.args | exact Look.func)) allLook_nil), ?_, by omega⟩, by omega⟩
          rw [hst]
          generalize es[i]! = e at hqi hqn c31 c37 ⊢
          first | (simp [barStep, Bar.cells, Event.trd, h0, hz]; omega) | (simp [barStep, Bar.cells, Event.trd, h0]; omega)
        · -- else_t37
          refine JC.skip ?_
          refine JC.rs ?_
          refine Seq.p rfl Ev.move ?_
          refine Seq.p rfl (Ev.faB fd.api_Bar_3) ?_
          refine Seq.storeN [_, _, _, _, _, _] sz.int (k := ?_)
          refine Seq.nil ?_
          refine JC.anyE 0 mixed ?_
          refine Any.p 0 rfl (by kernel_rfl) (by kernel_rfl) (by kernel_rfl) rfl (Ev.faB fd.api_Bar_4) ?_
          refine Any.p 2 rfl (by kernel_rfl) (by kernel_rfl) (by kernel_rfl) rfl Ev.move ?_
          refine Any.p 3 rfl (by kernel_rfl) (by kernel_rfl) (by kernel_rfl) rfl Ev.move ?_
          refine Any.p 4 rfl (by kernel_rfl) (by kernel_rfl) (by kernel_rfl) rfl (Ev.iaN sl.sl_api_Event (hr := he.r)) ?_
          refine Any.p 5 rfl (by kernel_rfl) (by kernel_rfl) (by kernel_rfl) rfl (Ev.fa fd.api_Event_9) ?_
          refine Any.p 6 rfl (by kernel_rfl) (by kernel_rfl) (by kernel_rfl) rfl (Ev.ldE sc.uint64 (hr := he.r)) ?_
          refine Any.one 1 rfl (by kernel_rfl) ?_
          refine Seq.p rfl (Ev.ldB sc.uint64) ?_
          refine Seq.nil ⟨(by repeat (first | exact Part.refl _ | exact Part.nil _ | apply Part.here | apply Part.skip)), ?_⟩
          refine Any.p 7 rfl (by kernel_rfl) (by kernel_rfl) (by kernel_rfl) rfl Ev.addU ?_
          refine Any.p 8 rfl (by kernel_rfl) (by kernel_rfl) (by kernel_rfl) rfl (Ev.faB fd.api_Bar_4) ?_
          refine Any.one 9 rfl (by kernel_rfl) ?_
          refine Seq.storeN [_, _, _, _, _, _] sz.uint64 (k := ?_)
          refine Seq.nil ⟨(by repeat (first | exact Part.refl _ | exact Part.nil _ | apply Part.here | apply Part.skip)), ?_⟩
          refine Any.done (by kernel_rfl) ?_
          refine JC.reg ?_
          refine Seq.p rfl Ev.move ?_
          refine Seq.p rfl (by first | exact Ev.inc | exact Ev.add) ?_
          refine Seq.p rfl Ev.assign ?_
          refine Seq.nil ?_
          refine ⟨i + 1, _, Part.refl _, ⟨Has.mk (by repeat (first | refine Off.upd ?_ rfl | exact Off.mix | refine Off.mix2 ?_ rfl | exact Off.refl)) (allLook_cons (by repeat (first | exact Look.here | apply Look.there (hne := rfl) | exact Look.const | apply Look.mix rfl | exact Look.arg0 | apply Look.args | exact Look.func)) allLook_nil), ?_, by omega⟩, by omega⟩
          rw [hst]
          generalize es[i]! = e at hqi hqn c31 c37 ⊢
          first | (simp [barStep, Bar.cells, Event.trd, h0, hz]; omega) | (simp [barStep, Bar.cells, Event.trd, h0]; omega)
      · -- else_t31
        refine JC.skip ?_
        refine JC.seq ?_
        refine JC.rs ?_
        refine Seq.p rfl Ev.move ?_
        refine Seq.p rfl (Ev.faB fd.api_Bar_2) ?_
        refine Seq.p rfl (Ev.ldB sc.int) ?_
        refine Seq.p rfl Ev.lt ?_
        refine Seq.nil ?_
        first | refine JC.c (ht := fun c37 => ?_) (hf := fun c37 => ?_) | refine JC.cb (ht := fun c37 => ?_) (hf := fun c37 => ?_)
        · -- then_t37
          refine JC.reg ?_
          refine Seq.p rfl Ev.move ?_
          refine Seq.p rfl (Ev.faB fd.api_Bar_2) ?_
          refine Seq.storeN [_, _, _, _, _, _] sz.int (k := ?_)
          refine Seq.nil ?_
          refine JC.rs ?_
          refine Seq.p rfl Ev.move ?_
          refine Seq.p rfl (Ev.faB fd.api_Bar_3) ?_
          refine Seq.storeN [_, _, _, _, _, _] sz.int (k := ?_)
          refine Seq.nil ?_
          refine JC.anyE 0 mixed ?_
          refine Any.p 0 rfl (by kernel_rfl) (by kernel_rfl) (by kernel_rfl) rfl (Ev.faB fd.api_Bar_4) ?_
          refine Any.p 2 rfl (by kernel_rfl) (by kernel_rfl) (by kernel_rfl) rfl Ev.move ?_
          refine Any.p 3 rfl (by kernel_rfl) (by kernel_rfl) (by kernel_rfl) rfl Ev.move ?_
          refine Any.p 4 rfl (by kernel_rfl) (by kernel_rfl) (by kernel_rfl) rfl (Ev.iaN sl.sl_api_Event (hr := he.r)) ?_
          refine Any.p 5 rfl (by kernel_rfl) (by kernel_rfl) (by kernel_rfl) rfl (Ev.fa fd.api_Event_9) ?_
          refine Any.p 6 rfl (by kernel_rfl) (by kernel_rfl) (by kernel_rfl) rfl (Ev.ldE sc.uint64 (hr := he.r)) ?_
          refine Any.one 1 rfl (by kernel_rfl) ?_
          refine Seq.p rfl (Ev.ldB sc.uint64) ?_
          refine Seq.nil ⟨(by repeat (first | exact Part.refl _ | exact Part.nil _ | apply Part.here | apply Part.skip)), ?_⟩
          refine Any.p 7 rfl (by kernel_rfl) (by kernel_rfl) (by kernel_rfl) rfl Ev.addU ?_
          refine Any.p 8 rfl (by kernel_rfl) (by kernel_rfl) (by kernel_rfl) rfl (Ev.faB fd.api_Bar_4) ?_
          refine Any.one 9 rfl (by kernel_rfl) ?_
          refine Seq.storeN [_, _, _, _, _, _] sz.uint64 (k := ?_)
          refine Seq.nil ⟨(by repeat (first | exact Part.refl _ | exact Part.nil _ | apply Part.here | apply Part.skip)), ?_⟩
          refine Any.done (by kernel_rfl) ?_
          refine JC.reg ?_
          refine Seq.p rfl Ev.move ?_
          refine Seq.p rfl (by first | exact Ev.inc | exact Ev.add) ?_
          refine Seq.p rfl Ev.assign ?_
          refine Seq.nil ?_
          refine ⟨i + 1, _, Part.refl _, ⟨Has.mk (by repeat (first | refine Off.upd ?_ rfl | exact Off.mix | refine Off.mix2 ?_ rfl | exact Off.refl)) (allLook_cons (by repeat (first | exact Look.here | apply Look.there (hne := rfl) | exact Look.const | apply Look.mix rfl | exact Look.arg0 | apply Look.args | exact Look.func)) allLook_nil), ?_, by omega⟩, by omega⟩
          rw [hst]
          generalize es[i]! = e at hqi hqn c31 c37 ⊢
          first | (simp [barStep, Bar.cells, Event.trd, h0, hz]; omega) | (simp [barStep, Bar.cells, Event.trd, h0]; omega)
        · -- else_t37
          refine JC.skip ?_
          refine JC.rs ?_
          refine Seq.p rfl Ev.move ?_
          refine Seq.p rfl (Ev.faB fd.api_Bar_3) ?_
          refine Seq.storeN [_, _, _, _, _, _] sz.int (k := ?_)
          refine Seq.nil ?_
          refine JC.anyE 0 mixed ?_
          refine Any.p 0 rfl (by kernel_rfl) (by kernel_rfl) (by kernel_rfl) rfl (Ev.faB fd.api_Bar_4) ?_
          refine Any.p 2 rfl (by kernel_rfl) (by kernel_rfl) (by kernel_rfl) rfl Ev.move ?_
          refine Any.p 3 rfl (by kernel_rfl) (by kernel_rfl) (by kernel_rfl) rfl Ev.move ?_
          refine Any.p 4 rfl (by kernel_rfl) (by kernel_rfl) (by kernel_rfl) rfl (Ev.iaN sl.sl_api_Event (hr := he.r)) ?_
          refine Any.p 5 rfl (by kernel_rfl) (by kernel_rfl) (by kernel_rfl) rfl (Ev.fa fd.api_Event_9) ?_
          refine Any.p 6 rfl (by kernel_rfl) (by kernel_rfl) (by kernel_rfl) rfl (Ev.ldE sc.uint64 (hr := he.r)) ?_
          refine Any.one 1 rfl (by kernel_rfl) ?_
          refine Seq.p rfl (Ev.ldB sc.uint64) ?_
          refine Seq.nil ⟨(by repeat (first | exact Part.refl _ | exact Part.nil _ | apply Part.here | apply Part.skip)), ?_⟩
          refine Any.p 7 rfl (by kernel_rfl) (by kernel_rfl) (by kernel_rfl) rfl Ev.addU ?_
          refine Any.p 8 rfl (by kernel_rfl) (by kernel_rfl) (by kernel_rfl) rfl (Ev.faB fd.api_Bar_4) ?_
          refine Any.one 9 rfl (by kernel_rfl) ?_
          refine Seq.storeN [_, _, _, _, _, _] sz.uint64 (k := ?_)
          refine Seq.nil ⟨(by repeat (first | exact Part.refl _ | exact Part.nil _ | apply Part.here | apply Part.skip)), ?_⟩
          refine Any.done (by kernel_rfl) ?_
          refine JC.reg ?_
          refine Seq.p rfl Ev.move ?_
          refine Seq.p rfl (by first | exact Ev.inc | exact Ev.add) ?_
          refine Seq.p rfl Ev.assign ?_
          refine Seq.nil ?_
          refine ⟨i + 1, _, Part.refl _, ⟨Has.mk (by repeat (first | refine Off.upd ?_ rfl | exact Off.mix | refine Off.mix2 ?_ rfl | exact Off.refl)) (allLook_cons (by repeat (first | exact Look.here | apply Look.there (hne := rfl) | exact Look.const | apply Look.mix rfl | exact Look.arg0 | apply Look.args | exact Look.func)) allLook_nil), ?_, by omega⟩, by omega⟩
          rw [hst]
          generalize es[i]! = e at hqi hqn c31 c37 ⊢
          first | (simp [barStep, Bar.cells, Event.trd, h0, hz]; omega) | (simp [barStep, Bar.cells, Event.trd, h0]; omega)
  · -- else_t12
    obtain rfl : i = es.length := by omega
    rw [List.take_of_length_le (by rw [List.length_map]; exact Nat.le_refl _), hend]
    refine JC.exit ?_ -- 0
    refine JC.rs ?_
    refine Seq.p rfl (Ev.ldBA (cs := (barF (es.map Event.trd)).enc) ag.api_Bar) ?_
    refine Seq.storeTo (cs' := (barF (es.map Event.trd)).enc) sz.api_Bar (hH := At.s At.z) (hfit := Nat.le_of_ble_eq_true rfl) (hcs := rfl) (k := ?_)
    refine Seq.nil ?_
    refine JC.ret ?_
    show retQ _ _ _ _ _ _ _ _
    refine retB1 ag.api_Bar (cs := (barF (es.map Event.trd)).enc) (hp := Part.nil _) (hpost := ?_)
    rfl
end Go.Rx
/- The reference: trades cut into bars. -/
namespace Go.Rx
open Go Go.RowKit
set_option linter.unusedVariables false
set_option linter.unusedSimpArgs false
theorem chunk_at {es : List Event} {k p q : Nat} (hp : p < es.length) (hk : 0 < k) (h : k < es.length - p ∧ q = p + k ∨ es.length - p ≤ k ∧ q = es.length) :
    p < q ∧ q ≤ es.length ∧ ((es.map Event.trd).drop p).take k = ((es.drop p).take (q - p)).map Event.trd ∧ ((es.map Event.trd).drop p).drop k = (es.map Event.trd).drop q := by
  rcases h with ⟨h1, rfl⟩ | ⟨h1, rfl⟩
  · refine ⟨by omega, by omega, ?_, by rw [List.drop_drop]⟩
    rw [show p + k - p = k by omega, List.map_take, List.map_drop]
  · refine ⟨by omega, Nat.le_refl _, ?_, ?_⟩
    · rw [List.map_take, List.map_drop, List.take_of_length_le (by rw [List.length_drop, List.length_map]; omega), List.take_of_length_le (by rw [List.length_drop, List.length_map]; omega)]
    · rw [List.drop_drop, List.drop_eq_nil_of_le (by rw [List.length_map]; omega), List.drop_eq_nil_of_le (by rw [List.length_map]; omega)]
set_option maxHeartbeats 2000000 in
set_option maxRecDepth 100000 in
theorem refBars {w : World} {v : Value} {es : List Event} {each : Int} (he : RSl Event.enc 13 w [] v es) (hq : goodQ es) (hlim : es.length * 48 ≤ 140737488355328) (hea : each ≤ 9223372036854775807) :
    Spec Go.Proofs.Try.prog 15 #[v, .int .i64 each] w [] (fun u F' => ∃ A c, u = .slice A (barsF each.toNat (es.map Event.trd)).length c ∧ F' = [.own 30 6 (.slice A (barsF each.toNat (es.map Event.trd)).length c) (barsF each.toNat (es.map Event.trd)).length ((barsF each.toNat (es.map Event.trd)).flatMap Bar.enc)]) := by
  have hs := he.small
  have hdl : (es.map Event.trd).length = es.length := List.length_map ..
  refine Spec.enter (fn := Go.Proofs.Try.f15) (n := 37) [v, .int .i64 each] Go.Proofs.Try.func15 (by kernel_rfl) rfl Go.Proofs.Try.ntmps15 Go.Proofs.Try.results15 rfl (Own.nil _) ?_
  refine JC.rs ?_
  refine Seq.p rfl Ev.assign ?_
  refine Seq.nil ?_
  refine JC.rs ?_
  refine Seq.buildSl (cs := []) (hsl := sl.sl_api_Bar) (hz := z.api_Bar) (hcs := rfl) (k := ?_); intro b8
  refine Seq.re (fun w h => Upd.boxOwn h (n := 0) (size := 6) At.z rfl (by omega)) ?_
  refine Seq.p rfl Ev.assign ?_
  refine Seq.nil ?_
  refine JC.seq ?_
  refine JC.rs ?_
  refine Seq.p rfl Ev.move ?_
  refine Seq.p rfl Ev.lt ?_
  refine Seq.nil ?_
  first | refine JC.c (ht := fun c10 => ?_) (hf := fun c10 => ?_) | refine JC.cb (ht := fun c10 => ?_) (hf := fun c10 => ?_)
  · -- then_t10
    refine JC.rs ?_
    refine Seq.p rfl Ev.move ?_
    refine Seq.p rfl Ev.assign ?_
    refine Seq.nil ?_
    refine JC.ret ?_
    show retQ _ _ _ _ _ _ _ _
    refine ret1 (hp := Part.refl _) (hpost := ?_)
    have e : barsF each.toNat (es.map Event.trd) = [] := by rw [barsF, dif_pos (.inl (by omega))]
    rw [e]
    exact ⟨_, _, rfl, rfl⟩
  · -- else_t10
    obtain ⟨k, rfl⟩ : ∃ k : Nat, each = (k : Int) := ⟨each.toNat, by omega⟩
    have hk : 0 < k := by omega
    rw [Int.toNat_natCast]
    refine JC.skip ?_
    refine JC.seq ?_
    refine JC.rs ?_
    refine Seq.p rfl Ev.assign ?_
    refine Seq.nil ?_
    refine JC.blk ?_
    refine JC.loop (α := Nat) (I := fun p e1 H1 => ∃ A c ds, Has [5, 6, 7, 12, 13, 14, 15, 16, 17, 18, 19, 20, 21, 22, 23, 24, 25, 26, 27, 28, 29, 30, 31, 32, 33, 34, 35] [(5, .slice A ds.length c), (6, .int .i64 (p : Int))] _ e1 ∧ H1 = [.own 30 6 (.slice A ds.length c) ds.length (ds.flatMap Bar.enc)] ∧ ds ++ barsF k ((es.map Event.trd).drop p) = barsF k (es.map Event.trd) ∧ ds.length ≤ p ∧ p ≤ es.length) (μ := fun p => es.length - p) 0 ⟨_, _, [], Has.mk Off.refl (allLook_cons (by repeat (first | exact Look.here | apply Look.there (hne := rfl) | exact Look.const | apply Look.mix rfl | exact Look.arg0 | apply Look.args | exact Look.func)) (allLook_cons (by repeat (first | exact Look.here | apply Look.there (hne := rfl) | exact Look.const | apply Look.mix rfl | exact Look.arg0 | apply Look.args | exact Look.func)) allLook_nil)), rfl, rfl, by simp, by omega⟩ ?_
    rintro p _ _ ⟨A, c, ds, ⟨u, rfl⟩, rfl, hds, hdp, hp⟩; dsimp only [setL]
    refine JC.seq ?_
    refine JC.rs ?_
    refine Seq.p rfl Ev.move ?_
    refine Seq.p rfl Ev.move ?_
    refine Seq.p rfl (Ev.lenSl sl.sl_api_Event (hr := he.r)) ?_
    refine Seq.p rfl Ev.lt ?_
    refine Seq.nil ?_
    first | refine JC.c (ht := fun c15 => ?_) (hf := fun c15 => ?_) | refine JC.cb (ht := fun c15 => ?_) (hf := fun c15 => ?_)
    · -- then_t15
      have hp2 : p < es.length := by omega
      rw [barsF_cons hk (by rw [List.length_drop, hdl]; omega)] at hds
      refine JC.skip ?_
      refine JC.blk ?_
      refine JC.rs ?_
      refine Seq.p rfl Ev.move ?_
      refine Seq.p rfl (Ev.lenSl sl.sl_api_Event (hr := he.r)) ?_
      refine Seq.p rfl Ev.assign ?_
      refine Seq.nil ?_
      refine JC.seq ?_
      refine JC.rs ?_
      refine Seq.p rfl Ev.move ?_
      refine Seq.p rfl Ev.move ?_
      refine Seq.p rfl (Ev.lenSl sl.sl_api_Event (hr := he.r)) ?_
      refine Seq.p rfl Ev.move ?_
      refine Seq.p rfl Ev.sub ?_
      refine Seq.p rfl Ev.lt ?_
      refine Seq.nil ?_
      first | refine JC.c (ht := fun c23 => ?_) (hf := fun c23 => ?_) | refine JC.cb (ht := fun c23 => ?_) (hf := fun c23 => ?_)
      · -- then_t23
        obtain ⟨q, hqe⟩ : ∃ q, q = p + k := ⟨_, rfl⟩
        obtain ⟨hpq, hql, hX1, hX2⟩ := chunk_at (q := q) hp2 hk (.inl ⟨by omega, hqe⟩)
        rw [hX1, hX2] at hds
        have hsub := he.sub (lo := p) (hi := q) (by omega) hql
        obtain ⟨b, hb⟩ : ∃ b, b = barF (((es.drop p).take (q - p)).map Event.trd) := ⟨_, rfl⟩
        refine JC.reg ?_
        refine Seq.p rfl Ev.move ?_
        refine Seq.p rfl Ev.move ?_
        refine Seq.p rfl (Ev.as (v' := .int .i64 (q : Int)) (by rw [hqe, Int.natCast_add]) Ev.add) ?_
        refine Seq.p rfl Ev.assign ?_
        refine Seq.nil ?_
        refine JC.rs ?_
        refine Seq.p rfl Ev.move ?_
        refine Seq.p rfl Ev.move ?_
        refine Seq.p rfl Ev.move ?_
        refine Seq.p rfl Ev.move ?_
        refine Seq.p rfl (Ev.cut sl.sl_api_Event (hr := he.r) (l := p) (h := q) (hlo := ⟨_, (by repeat (first | exact Look.here | apply Look.there (hne := rfl) | exact Look.const | apply Look.mix rfl | exact Look.arg0 | apply Look.args | exact Look.func))⟩) (hhi := ⟨_, (by repeat (first | exact Look.here | apply Look.there (hne := rfl) | exact Look.const | apply Look.mix rfl | exact Look.arg0 | apply Look.args | exact Look.func))⟩)) ?_
        refine Seq.callP rfl (fun w hw => (hb ▸ refBar (es := (es.drop p).take (q - p)) (hsub.up hw) (fun e h => hq e (List.mem_of_mem_drop (List.mem_of_mem_take h))))) ?_
        refine Seq.buildSlN [_, _, _, _, _, _] (hsl := sl.sl_api_Bar) (hz := z.api_Bar) (k := ?_); intro b33
        refine Seq.append (hsl := sl.sl_api_Bar) (he := el.api_Bar) (hsrc := (fun w' hw => Src.box (news := b.enc) sl.sl_api_Bar At.z hw rfl (fun q u hu => hu))) (k := ?_); intro A34 c34
        refine Seq.p rfl Ev.assign ?_
        refine Seq.nil ?_
        refine JC.reg ?_
        refine Seq.p rfl Ev.move ?_
        refine Seq.p rfl Ev.assign ?_
        refine Seq.nil ?_
        refine ⟨q, _, Part.skip (Part.refl _), ⟨A34, c34, ds ++ [b], Has.mk (by repeat (first | refine Off.upd ?_ rfl | exact Off.mix | refine Off.mix2 ?_ rfl | exact Off.refl)) (allLook_cons (by rw [List.length_append]; exact (by repeat (first | exact Look.here | apply Look.there (hne := rfl) | exact Look.const | apply Look.mix rfl | exact Look.arg0 | apply Look.args | exact Look.func))) (allLook_cons (by repeat (first | exact Look.here | apply Look.there (hne := rfl) | exact Look.const | apply Look.mix rfl | exact Look.arg0 | apply Look.args | exact Look.func)) allLook_nil)), ?_, ?_, ?_, ?_⟩, by omega⟩
        · simp
        · rw [← hds, hb]; simp
        · simp; omega
        · omega
      · -- else_t23
        obtain ⟨q, hqe⟩ : ∃ q, q = es.length := ⟨_, rfl⟩
        obtain ⟨hpq, hql, hX1, hX2⟩ := chunk_at (q := q) hp2 hk (.inr ⟨by omega, hqe⟩)
        rw [hX1, hX2] at hds
        have hsub := he.sub (lo := p) (hi := q) (by omega) hql
        obtain ⟨b, hb⟩ : ∃ b, b = barF (((es.drop p).take (q - p)).map Event.trd) := ⟨_, rfl⟩
        rw [← hqe]
        refine JC.skip ?_
        refine JC.rs ?_
        refine Seq.p rfl Ev.move ?_
        refine Seq.p rfl Ev.move ?_
        refine Seq.p rfl Ev.move ?_
        refine Seq.p rfl Ev.move ?_
        refine Seq.p rfl (Ev.cut sl.sl_api_Event (hr := he.r) (l := p) (h := q) (hlo := ⟨_, (by repeat (first | exact Look.here | apply Look.there (hne := rfl) | exact Look.const | apply Look.mix rfl | exact Look.arg0 | apply Look.args | exact Look.func))⟩) (hhi := ⟨_, (by repeat (first | exact Look.here | apply Look.there (hne := rfl) | exact Look.const | apply Look.mix rfl | exact Look.arg0 | apply Look.args | exact Look.func))⟩)) ?_
        refine Seq.callP rfl (fun w hw => (hb ▸ refBar (es := (es.drop p).take (q - p)) (hsub.up hw) (fun e h => hq e (List.mem_of_mem_drop (List.mem_of_mem_take h))))) ?_
        refine Seq.buildSlN [_, _, _, _, _, _] (hsl := sl.sl_api_Bar) (hz := z.api_Bar) (k := ?_); intro b33
        refine Seq.append (hsl := sl.sl_api_Bar) (he := el.api_Bar) (hsrc := (fun w' hw => Src.box (news := b.enc) sl.sl_api_Bar At.z hw rfl (fun q u hu => hu))) (k := ?_); intro A34 c34
        refine Seq.p rfl Ev.assign ?_
        refine Seq.nil ?_
        refine JC.reg ?_
        refine Seq.p rfl Ev.move ?_
        refine Seq.p rfl Ev.assign ?_
        refine Seq.nil ?_
        refine ⟨q, _, Part.skip (Part.refl _), ⟨A34, c34, ds ++ [b], Has.mk (by repeat (first | refine Off.upd ?_ rfl | exact Off.mix | refine Off.mix2 ?_ rfl | exact Off.refl)) (allLook_cons (by rw [List.length_append]; exact (by repeat (first | exact Look.here | apply Look.there (hne := rfl) | exact Look.const | apply Look.mix rfl | exact Look.arg0 | apply Look.args | exact Look.func))) (allLook_cons (by repeat (first | exact Look.here | apply Look.there (hne := rfl) | exact Look.const | apply Look.mix rfl | exact Look.arg0 | apply Look.args | exact Look.func)) allLook_nil)), ?_, ?_, ?_, ?_⟩, by omega⟩
        · simp
        · rw [← hds, hb]; simp
        · simp; omega
        · omega
    · -- else_t15
      obtain rfl : p = es.length := by omega
      rw [List.drop_eq_nil_of_le (by omega), barsF_nil, List.append_nil] at hds
      subst hds
      refine JC.exit ?_ -- 0
      refine JC.rs ?_
      refine Seq.p rfl Ev.move ?_
      refine Seq.p rfl Ev.assign ?_
      refine Seq.nil ?_
      refine JC.ret ?_
      show retQ _ _ _ _ _ _ _ _
      refine ret1 (hp := Part.refl _) (hpost := ?_)
      exact ⟨_, _, rfl, rfl⟩
end Go.Rx
/- The reference's mean. -/
namespace Go.Rx
open Go Go.RowKit
set_option linter.unusedVariables false
set_option linter.unusedSimpArgs false
theorem bit48 (n i b : Nat) (hb : b < 48) : n / 2 ^ (48 * i) % 281474976710656 / 2 ^ b % 2 = n / 2 ^ (48 * i + b) % 2 := by
  have h : 281474976710656 = 2 ^ b * 2 ^ (48 - b) := by
    rw [← Nat.pow_add, show b + (48 - b) = 48 by omega]
  obtain ⟨z, hz⟩ : ∃ z, 48 - b = z + 1 := ⟨47 - b, by omega⟩
  rw [h, Nat.mod_mul_right_div_self, hz, Nat.mod_mod_of_dvd _ ⟨2 ^ z, by rw [Nat.pow_succ, Nat.mul_comm]⟩, Nat.div_div_eq_div_mul, ← Nat.pow_add]
theorem f4_get {n i : Nat} (h : i < 4) : (f4 n)[i]! = n / 2 ^ (48 * i) % 281474976710656 := by
  have : i = 0 ∨ i = 1 ∨ i = 2 ∨ i = 3 := by omega
  rcases this with rfl | rfl | rfl | rfl
  · show n % 281474976710656 = _; rw [Nat.mul_zero, Nat.pow_zero, Nat.div_one]
  · rfl
  · rfl
  · rfl
theorem x4_get {n i : Nat} (h : i < 4) : (x4 n)[0 + i * 1]? = some (.int .u64 ((n / 2 ^ (48 * i) % 281474976710656 : Nat) : Int)) := by
  rw [x4, u3_get (l := f4 n) h, f4_get h]
theorem x4_get0 {n : Nat} : (x4 n)[0 + 0 * 1]? = some (.int .u64 ((n % 281474976710656 : Nat) : Int)) := rfl
theorem x4_bit {n t : Nat} (hn : n % 2 = 0) (ht : t < 2) : (x4 n).take (0 + 0 * 1) ++ [Value.int .u64 ((n % 281474976710656 + t : Nat) : Int)] ++ (x4 n).drop (0 + 0 * 1 + 1) = x4 (n + t) := by
  have e : [n % 281474976710656 + t, n / 281474976710656 % 281474976710656, n / 79228162514264337593543950336 % 281474976710656, n / 22300745198530623141535718272648361505980416 % 281474976710656] = f4 (n + t) := by
    refine x4_eq ?_ ?_ ?_ ?_ <;> omega
  rw [show x4 (n + t) = u3 (f4 (n + t)) from rfl, ← e]
  rfl
def meanE (l : List Event) : Nat × Bool := meanF (l.map Event.trd)
theorem big_quot {n q k : Nat} (hq : 0 < q) (h : 9223372036854775808 ≤ n / 2 ^ (k + 1) / q) : 18446744073709551616 ≤ n / q := by
  have h1 : n / 2 ^ (k + 1) / q = n / q / 2 ^ (k + 1) := by rw [Nat.div_div_eq_div_mul, Nat.div_div_eq_div_mul, Nat.mul_comm]
  rw [h1] at h
  have h2 := (Nat.le_div_iff_mul_le (Nat.two_pow_pos _)).1 h
  have h3 : 2 ≤ 2 ^ (k + 1) := by rw [Nat.pow_succ]; have := Nat.two_pow_pos k; omega
  have h4 := Nat.mul_le_mul (Nat.le_refl 9223372036854775808) h3
  omega
end Go.Rx
/- The reference's mean, walked. -/
namespace Go.Rx
open Go Go.RowKit
set_option linter.unusedVariables false
set_option linter.unusedSimpArgs false
theorem round_d {s q z : Nat} (hz : z = s / q) : (decide (0 < cmpF (s % q * 2) q) || decide (cmpF (s % q * 2) q = 0) && decide (((z % 2 : Nat) : Int) = 1)) = decide (q < s % q * 2 ∨ s % q * 2 = q ∧ s / q % 2 = 1) := by
  subst hz
  rw [Bool.eq_iff_iff]
  simp only [Bool.or_eq_true, Bool.and_eq_true, decide_eq_true_eq]
  unfold cmpF
  split
  · omega
  · split <;> omega
set_option maxHeartbeats 4000000 in
set_option maxRecDepth 100000 in
theorem refMean {w : World} {v : Value} {es : List Event} (he : RSl Event.enc 13 w [] v es) (hq : goodQ es) : Spec Go.Proofs.Try.prog 16 #[v] w [] (fun u _ => u = .tuple #[.int .u64 ((meanE es).1 : Int), .bool (meanE es).2]) := by
  have hs := he.small
  have hdl : (es.map Event.trd).length = es.length := List.length_map ..
  have hdq : ∀ t ∈ es.map Event.trd, t.qty < 18446744073709551616 := by
    intro t ht
    obtain ⟨e, he, rfl⟩ := List.mem_map.1 ht
    have := hq e he
    show e.qty.toNat < _
    omega
  have hsle := sums_le hdq
  obtain ⟨hb1, hb2⟩ := sums_lt hdq (by rw [hdl]; exact hs)
  refine Spec.enter (fn := Go.Proofs.Try.f16) (n := 100) [v] Go.Proofs.Try.func16 (by kernel_rfl) rfl Go.Proofs.Try.ntmps16 Go.Proofs.Try.results16 rfl (Own.nil _) ?_
  refine JC.rs ?_
  refine Seq.p rfl Ev.assign ?_
  refine Seq.p rfl Ev.assign ?_
  refine Seq.nil ?_
  refine JC.rs ?_
  refine Seq.p rfl (Ev.buildArrN [_, _, _, _] ar.bourseref27_wide z.bourseref27_wide) ?_
  refine Seq.p rfl (Ev.buildArrN [_, _, _, _] ar.bourseref27_wide z.bourseref27_wide) ?_
  refine Seq.alloc (cs := [_, _, _, _]) (hz := z.bourseref27_wide) (k := ?_); intro b4
  refine Seq.alloc (cs := [_, _, _, _]) (hz := z.bourseref27_wide) (k := ?_); intro b5
  refine Seq.storeTo (cs' := x4 0) sz.bourseref27_wide (hH := At.s At.z) (hfit := Nat.le_of_ble_eq_true rfl) (hcs := rfl) (k := ?_)
  refine Seq.storeTo (cs' := x4 0) sz.bourseref27_wide (hH := At.z) (hfit := Nat.le_of_ble_eq_true rfl) (hcs := rfl) (k := ?_)
  refine Seq.nil ?_
  refine JC.seq ?_
  refine JC.rs ?_
  refine Seq.p rfl Ev.assign ?_
  refine Seq.nil ?_
  refine JC.blk ?_
  refine JC.loop (α := Nat) (I := fun i e1 H1 => Has [6, 14, 15, 16, 17, 18, 19, 20, 21, 22, 23, 24, 25, 26, 27, 28, 29, 30, 31, 32, 33, 34, 35, 36, 37, 38] [(6, .int .i64 (i : Int))] _ e1 ∧ H1 = [.box b5 80 (x4 (sumQ ((es.map Event.trd).take i))), .box b4 80 (x4 (sumW ((es.map Event.trd).take i)))] ∧ i ≤ es.length) (μ := fun i => es.length - i) 0 ⟨Has.mk Off.refl (allLook_cons (by repeat (first | exact Look.here | apply Look.there (hne := rfl) | exact Look.const | apply Look.mix rfl | exact Look.arg0 | apply Look.args | exact Look.func)) allLook_nil), rfl, by omega⟩ ?_
  rintro i _ _ ⟨⟨u, rfl⟩, rfl, hi⟩; dsimp only [setL]
  refine JC.seq ?_
  refine JC.rs ?_
  refine Seq.p rfl Ev.move ?_
  refine Seq.p rfl Ev.move ?_
  refine Seq.p rfl (Ev.lenSl sl.sl_api_Event (hr := he.r)) ?_
  refine Seq.p rfl Ev.lt ?_
  refine Seq.nil ?_
  first | refine JC.c (ht := fun c17 => ?_) (hf := fun c17 => ?_) | refine JC.cb (ht := fun c17 => ?_) (hf := fun c17 => ?_)
  · -- then_t17
    have hi2 : i < es.length := by omega
    have hW := sumW_take (l := es.map Event.trd) (i := i) (by rw [hdl]; exact hi2)
    have hQ := sumQ_take (l := es.map Event.trd) (i := i) (by rw [hdl]; exact hi2)
    have hl2 := hsle i (by rw [hdl]; omega)
    rw [trd_get hi2] at hW hQ
    have hqg : 0 ≤ es[i]!.qty ∧ es[i]!.qty ≤ 18446744073709551615 := by rw [getElem!_pos es i hi2]; exact hq _ (List.getElem_mem hi2)
    have hqn : ((es[i]!.qty.toNat : Nat) : Int) = es[i]!.qty := Int.toNat_of_nonneg hqg.1
    have hwl := worthF_lt es[i]!.price
    have hwp := worth_prod (t := es[i]!.trd) (by show es[i]!.qty.toNat < _; omega)
    obtain ⟨S, hS⟩ : ∃ m, m = sumW ((es.map Event.trd).take i) := ⟨_, rfl⟩
    obtain ⟨Q, hQe⟩ : ∃ m, m = sumQ ((es.map Event.trd).take i) := ⟨_, rfl⟩
    rw [← hS] at hW hl2 ⊢
    rw [← hQe] at hQ hl2 ⊢
    refine JC.skip ?_
    refine JC.seq ?_
    refine JC.blk ?_
    refine JC.asE 1 mixed ?_
    refine Any.p 1 rfl (by kernel_rfl) (by kernel_rfl) (by kernel_rfl) rfl Ev.move ?_
    refine Any.p 2 rfl (by kernel_rfl) (by kernel_rfl) (by kernel_rfl) rfl Ev.move ?_
    refine Any.p 3 rfl (by kernel_rfl) (by kernel_rfl) (by kernel_rfl) rfl (Ev.iaN sl.sl_api_Event (hr := he.r)) ?_
    refine Any.p 4 rfl (by kernel_rfl) (by kernel_rfl) (by kernel_rfl) rfl (Ev.ldEA ag.api_Event (hr := he.r)) ?_
    refine Any.call 5 rfl (by kernel_rfl) (by kernel_rfl) (by kernel_rfl) rfl (fun w hw => refPrice (e := es[i]!)) ?_
    refine Any.p 6 rfl (by kernel_rfl) (by kernel_rfl) (by kernel_rfl) rfl Ev.move ?_
    refine Any.p 7 rfl (by kernel_rfl) (by kernel_rfl) (by kernel_rfl) rfl Ev.move ?_
    refine Any.p 8 rfl (by kernel_rfl) (by kernel_rfl) (by kernel_rfl) rfl (Ev.iaN sl.sl_api_Event (hr := he.r)) ?_
    refine Any.p 9 rfl (by kernel_rfl) (by kernel_rfl) (by kernel_rfl) rfl (Ev.fa fd.api_Event_9) ?_
    refine Any.p 10 rfl (by kernel_rfl) (by kernel_rfl) (by kernel_rfl) rfl (Ev.ldE sc.uint64 (hr := he.r)) ?_
    refine Any.one 0 rfl (by kernel_rfl) ?_
    refine Seq.p rfl (Ev.ldBA (cs := x4 S) ag.bourseref27_wide) ?_
    refine Seq.nil ⟨(by repeat (first | exact Part.refl _ | exact Part.nil _ | apply Part.here | apply Part.skip)), ?_⟩
    refine Any.call 11 rfl (by kernel_rfl) (by kernel_rfl) (by kernel_rfl) rfl (fun w hw => (by have h := widePlus (w := w) (n := S) (p := worthF es[i]!.price) (q := es[i]!.qty.toNat) (by omega) (by omega) (by have : worthF es[i]!.price * es[i]!.qty.toNat ≤ 4835703278458516698824704 := hwp; omega); rw [hqn] at h; exact h)) ?_
    refine Any.one 12 rfl (by kernel_rfl) ?_
    refine Seq.storeTo (cs' := x4 (sumW ((es.map Event.trd).take (i + 1)))) sz.bourseref27_wide (hfit := Nat.le_of_ble_eq_true rfl) (hcs := by rw [hW]; rfl) (k := ?_)
    refine Seq.nil ⟨(by repeat (first | exact Part.refl _ | exact Part.nil _ | apply Part.here | apply Part.skip)), ?_⟩
    refine Any.done (by kernel_rfl) ?_
    refine JC.anyE 0 mixed ?_
    refine Any.p 1 rfl (by kernel_rfl) (by kernel_rfl) (by kernel_rfl) rfl Ev.move ?_
    refine Any.p 2 rfl (by kernel_rfl) (by kernel_rfl) (by kernel_rfl) rfl Ev.move ?_
    refine Any.p 3 rfl (by kernel_rfl) (by kernel_rfl) (by kernel_rfl) rfl (Ev.iaN sl.sl_api_Event (hr := he.r)) ?_
    refine Any.p 4 rfl (by kernel_rfl) (by kernel_rfl) (by kernel_rfl) rfl (Ev.fa fd.api_Event_9) ?_
    refine Any.p 5 rfl (by kernel_rfl) (by kernel_rfl) (by kernel_rfl) rfl (Ev.ldE sc.uint64 (hr := he.r)) ?_
    refine Any.one 0 rfl (by kernel_rfl) ?_
    refine Seq.p rfl (Ev.ldBA (cs := x4 Q) ag.bourseref27_wide) ?_
    refine Seq.nil ⟨(by repeat (first | exact Part.refl _ | exact Part.nil _ | apply Part.here | apply Part.skip)), ?_⟩
    refine Any.call 6 rfl (by kernel_rfl) (by kernel_rfl) (by kernel_rfl) rfl (fun w hw => (by have h := widePlus (w := w) (n := Q) (p := 1) (q := es[i]!.qty.toNat) (by omega) (by omega) (by omega); rw [hqn] at h; exact h)) ?_
    refine Any.one 7 rfl (by kernel_rfl) ?_
    refine Seq.storeTo (cs' := x4 (sumQ ((es.map Event.trd).take (i + 1)))) sz.bourseref27_wide (hfit := Nat.le_of_ble_eq_true rfl) (hcs := by rw [hQ, ← Nat.one_mul es[i]!.trd.qty]; rfl) (k := ?_)
    refine Seq.nil ⟨(by repeat (first | exact Part.refl _ | exact Part.nil _ | apply Part.here | apply Part.skip)), ?_⟩
    refine Any.done (by kernel_rfl) ?_
    refine JC.reg ?_
    refine Seq.p rfl Ev.move ?_
    refine Seq.p rfl (by first | exact Ev.inc | exact Ev.add) ?_
    refine Seq.p rfl Ev.assign ?_
    refine Seq.nil ?_
    exact ⟨i + 1, _, Part.refl _, ⟨Has.mk (by repeat (first | refine Off.upd ?_ rfl | exact Off.mix | refine Off.mix2 ?_ rfl | exact Off.refl)) (allLook_cons (by repeat (first | exact Look.here | apply Look.there (hne := rfl) | exact Look.const | apply Look.mix rfl | exact Look.arg0 | apply Look.args | exact Look.func)) allLook_nil), rfl, by omega⟩, by omega⟩
  · -- else_t17
    obtain rfl : i = es.length := by omega
    rw [List.take_of_length_le (by rw [hdl]; exact Nat.le_refl _)]
    obtain ⟨S, hS⟩ : ∃ m, m = sumW (es.map Event.trd) := ⟨_, rfl⟩
    obtain ⟨Q, hQe⟩ : ∃ m, m = sumQ (es.map Event.trd) := ⟨_, rfl⟩
    rw [← hS] at hb1 ⊢
    rw [← hQe] at hb2 ⊢
    refine JC.exit ?_ -- 0
    refine JC.seq ?_
    refine JC.rs ?_
    refine Seq.p rfl (Ev.ldBA (cs := x4 Q) ag.bourseref27_wide) ?_
    refine Seq.p rfl (Ev.buildArrN [_, _, _, _] ar.bourseref27_wide z.bourseref27_wide) ?_
    refine Seq.callP rfl (fun w hw => wideCompare (n := Q) (m := 0) (by omega) (by omega)) ?_
    refine Seq.p rfl Ev.eq ?_
    refine Seq.nil ?_
    first | refine JC.c (ht := fun c42 => ?_) (hf := fun c42 => ?_) | refine JC.cb (ht := fun c42 => ?_) (hf := fun c42 => ?_)
    · -- then_t42
      have hQ0 : Q = 0 := by unfold cmpF at c42; split at c42 <;> (try split at c42) <;> omega
      refine JC.rs ?_
      refine Seq.p rfl Ev.assign ?_
      refine Seq.p rfl Ev.assign ?_
      refine Seq.nil ?_
      refine JC.ret ?_
      show retQ _ _ _ _ _ _ _ _
      refine ret2 (hp := Part.nil _) (hpost := ?_)
      rw [meanE, meanF, ← hQe, if_pos hQ0]
      rfl
    · -- else_t42
      have hQ0 : 0 < Q := by have h9 : Q ≠ 0 := fun h => c42 (by rw [h]; rfl); omega
      refine JC.skip ?_
      refine JC.rs ?_
      refine Seq.p rfl (Ev.ldBA (cs := x4 S) ag.bourseref27_wide) ?_
      refine Seq.callP rfl (fun w hw => wideTimes (n := S) (m := 100) (by omega) (by omega) (by omega)) ?_
      refine Seq.storeTo (cs' := x4 (S * 100)) sz.bourseref27_wide (hH := At.s At.z) (hfit := Nat.le_of_ble_eq_true rfl) (hcs := rfl) (k := ?_)
      refine Seq.nil ?_
      refine JC.rs ?_
      refine Seq.p rfl (Ev.buildArrN [_, _, _, _] ar.bourseref27_wide z.bourseref27_wide) ?_
      refine Seq.alloc (cs := [_, _, _, _]) (hz := z.bourseref27_wide) (k := ?_); intro b8
      refine Seq.p rfl Ev.assign ?_
      refine Seq.storeTo (cs' := x4 0) sz.bourseref27_wide (hH := At.z) (hfit := Nat.le_of_ble_eq_true rfl) (hcs := rfl) (k := ?_)
      refine Seq.nil ?_
      refine JC.seq ?_
      refine JC.rs ?_
      refine Seq.p rfl Ev.assign ?_
      refine Seq.nil ?_
      refine JC.blk ?_
      obtain ⟨A, hA⟩ : ∃ m, m = S * 100 := ⟨_, rfl⟩
      rw [← hA]
      refine JC.loop (α := Nat) (I := fun q e1 H1 => Has [2, 3, 7, 9, 10, 46, 47, 48, 49, 50, 51, 52, 53, 54, 55, 56, 57, 58, 59, 60, 61, 62, 63, 64, 65, 66, 67, 68, 69, 70, 71, 72, 73, 74, 75, 76, 77, 78, 79] [(7, .int .u64 ((A / 2 ^ (48 * q) / Q : Nat) : Int)), (9, .int .i64 ((q : Int) - 1))] _ e1 ∧ H1 = [.box b8 80 (x4 (A / 2 ^ (48 * q) % Q)), .box b5 80 (x4 Q), .box b4 80 (x4 A)] ∧ q ≤ 4 ∧ A / 2 ^ (48 * q) / Q < 18446744073709551616) (μ := fun q => q) 4 ⟨Has.mk Off.refl (allLook_cons (by rw [Nat.div_eq_of_lt (show A < 2 ^ (48 * 4) by show A < 6277101735386680763835789423207666416102355444464034512896; omega), Nat.zero_div]; exact (by repeat (first | exact Look.here | apply Look.there (hne := rfl) | exact Look.const | apply Look.mix rfl | exact Look.arg0 | apply Look.args | exact Look.func))) (allLook_cons (by repeat (first | exact Look.here | apply Look.there (hne := rfl) | exact Look.const | apply Look.mix rfl | exact Look.arg0 | apply Look.args | exact Look.func)) allLook_nil)), by rw [Nat.div_eq_of_lt (show A < 2 ^ (48 * 4) by show A < 6277101735386680763835789423207666416102355444464034512896; omega), Nat.zero_mod]; rfl, by omega, by rw [Nat.div_eq_of_lt (show A < 2 ^ (48 * 4) by show A < 6277101735386680763835789423207666416102355444464034512896; omega), Nat.zero_div]; omega⟩ ?_
      rintro q _ _ ⟨⟨u, rfl⟩, rfl, hq4, hqs⟩; dsimp only [setL]
      refine JC.seq ?_
      refine JC.rs ?_
      refine Seq.p rfl Ev.move ?_
      refine Seq.p rfl Ev.ge ?_
      refine Seq.nil ?_
      first | refine JC.c (ht := fun c47 => ?_) (hf := fun c47 => ?_) | refine JC.cb (ht := fun c47 => ?_) (hf := fun c47 => ?_)
      · -- then_t47
        obtain ⟨p, rfl⟩ : ∃ p, q = p + 1 := ⟨q - 1, by omega⟩
        have hpi : ((p + 1 : Nat) : Int) - 1 = (p : Int) := by omega
        rw [hpi]
        refine JC.skip ?_
        refine JC.seq ?_
        refine JC.blk ?_
        refine JC.rs ?_
        refine Seq.p rfl Ev.assign ?_
        refine Seq.nil ?_
        refine JC.blk ?_
        refine JC.loop (α := Nat) (I := fun r e1 H1 => Has [2, 3, 7, 10, 50, 51, 52, 53, 54, 55, 56, 57, 58, 59, 60, 61, 62, 63, 64, 65, 66, 67, 68, 69, 70, 71, 72, 73, 74, 75, 76, 77, 78, 79] [(7, .int .u64 ((A / 2 ^ (48 * p + r) / Q : Nat) : Int)), (10, .int .i64 ((r : Int) - 1))] _ e1 ∧ H1 = [.box b8 80 (x4 (A / 2 ^ (48 * p + r) % Q)), .box b5 80 (x4 Q), .box b4 80 (x4 A)] ∧ r ≤ 48 ∧ A / 2 ^ (48 * p + r) / Q < 18446744073709551616) (μ := fun r => r) 48 ⟨Has.mk Off.refl (allLook_cons (by repeat (first | exact Look.here | apply Look.there (hne := rfl) | exact Look.const | apply Look.mix rfl | exact Look.arg0 | apply Look.args | exact Look.func)) (allLook_cons (by repeat (first | exact Look.here | apply Look.there (hne := rfl) | exact Look.const | apply Look.mix rfl | exact Look.arg0 | apply Look.args | exact Look.func)) allLook_nil)), rfl, by omega, hqs⟩ ?_
        rintro r _ _ ⟨⟨u2, rfl⟩, rfl, hr4, hrs⟩; dsimp only [setL]
        refine JC.seq ?_
        refine JC.rs ?_
        refine Seq.p rfl Ev.move ?_
        refine Seq.p rfl Ev.ge ?_
        refine Seq.nil ?_
        first | refine JC.c (ht := fun c51 => ?_) (hf := fun c51 => ?_) | refine JC.cb (ht := fun c51 => ?_) (hf := fun c51 => ?_)
        · -- then_t51
          obtain ⟨b, rfl⟩ : ∃ b, r = b + 1 := ⟨r - 1, by omega⟩
          have hbi : ((b + 1 : Nat) : Int) - 1 = (b : Int) := by omega
          rw [hbi]
          have hb48 : b < 48 := by omega
          obtain ⟨hD1, hD2⟩ := div_bit A (48 * p + b) Q hQ0
          have hR := Nat.mod_lt (A / 2 ^ (48 * p + (b + 1))) hQ0
          have hT : A / 2 ^ (48 * p + b) % 2 < 2 := Nat.mod_lt _ (by omega)
          have hB := bit48 A p b hb48
          have hbig := fun h => big_quot (n := A) (q := Q) (k := 48 * p + b) hQ0 h
          rw [show 48 * p + b + 1 = 48 * p + (b + 1) by omega] at hD1 hD2 hbig
          obtain ⟨z, hz⟩ : ∃ z, z = A / 2 ^ (48 * p + (b + 1)) / Q := ⟨_, rfl⟩
          obtain ⟨r, hr⟩ : ∃ r, r = A / 2 ^ (48 * p + (b + 1)) % Q := ⟨_, rfl⟩
          obtain ⟨t, ht⟩ : ∃ t, t = A / 2 ^ (48 * p + b) % 2 := ⟨_, rfl⟩
          rw [← hz, ← hr, ← ht] at hD1
          rw [← hr, ← ht] at hD2
          rw [← hr] at hR
          rw [← ht] at hB hT
          rw [← hz] at hrs hbig
          rw [← hz, ← hr]
          refine JC.skip ?_
          refine JC.seq ?_
          refine JC.blk ?_
          refine JC.rs ?_
          refine Seq.p rfl (Ev.ldBA (cs := x4 r) ag.bourseref27_wide) ?_
          refine Seq.callP rfl (fun w hw => wideTimes (n := r) (m := 2) (by omega) (by omega) (by omega)) ?_
          refine Seq.storeTo (cs' := x4 (r * 2)) sz.bourseref27_wide (hH := At.z) (hfit := Nat.le_of_ble_eq_true rfl) (hcs := rfl) (k := ?_)
          refine Seq.nil ?_
          refine JC.asE 0 mixed ?_
          refine Any.p 0 rfl (by kernel_rfl) (by kernel_rfl) (by kernel_rfl) rfl (Ev.iaArrB ar.bourseref27_wide) ?_
          refine Any.p 2 rfl (by kernel_rfl) (by kernel_rfl) (by kernel_rfl) rfl Ev.move ?_
          refine Any.p 3 rfl (by kernel_rfl) (by kernel_rfl) (by kernel_rfl) rfl (Ev.iaArrN ar.bourseref27_wide (i := p)) ?_
          refine Any.p 4 rfl (by kernel_rfl) (by kernel_rfl) (by kernel_rfl) rfl (Ev.ldB sc.uint64 (hv := x4_get (by omega))) ?_
          refine Any.p 5 rfl (by kernel_rfl) (by kernel_rfl) (by kernel_rfl) rfl Ev.move ?_
          refine Any.p 6 rfl (by kernel_rfl) (by kernel_rfl) (by kernel_rfl) rfl (Ev.convU64 it.int it.uint (h := by omega)) ?_
          refine Any.p 7 rfl (by kernel_rfl) (by kernel_rfl) (by kernel_rfl) rfl (Ev.shrV (s := b)) ?_
          refine Any.p 8 rfl (by kernel_rfl) (by kernel_rfl) (by kernel_rfl) rfl (Ev.as (v' := .int .u64 ((t : Nat) : Int)) (congrArg (Value.int .u64) (by rw [hB])) (Ev.remNU (b := 2))) ?_
          refine Any.one 1 rfl (by kernel_rfl) ?_
          refine Seq.p rfl (Ev.ldB sc.uint64 (hv := x4_get0)) ?_
          refine Seq.nil ⟨(by repeat (first | exact Part.refl _ | exact Part.nil _ | apply Part.here | apply Part.skip)), ?_⟩
          refine Any.p 9 rfl (by kernel_rfl) (by kernel_rfl) (by kernel_rfl) rfl (Ev.addNU (a := r * 2 % 281474976710656) (b := t)) ?_
          refine Any.p 10 rfl (by kernel_rfl) (by kernel_rfl) (by kernel_rfl) rfl (Ev.iaArrB ar.bourseref27_wide) ?_
          refine Any.one 11 rfl (by kernel_rfl) ?_
          refine Seq.storeTo (cs' := x4 (r * 2 + t)) sz.uint64 (hfit := Nat.le_of_ble_eq_true rfl) (hcs := x4_bit (by omega) hT) (k := ?_)
          refine Seq.nil ⟨(by repeat (first | exact Part.refl _ | exact Part.nil _ | apply Part.here | apply Part.skip)), ?_⟩
          refine Any.done (by kernel_rfl) ?_
          refine JC.seq ?_
          refine JC.rs ?_
          refine Seq.p rfl Ev.move ?_
          refine Seq.p rfl Ev.ge ?_
          refine Seq.nil ?_
          first | refine JC.c (ht := fun c68 => ?_) (hf := fun c68 => ?_) | refine JC.cb (ht := fun c68 => ?_) (hf := fun c68 => ?_)
          · -- then_t68
            refine JC.rs ?_
            refine Seq.p rfl Ev.assign ?_
            refine Seq.p rfl Ev.assign ?_
            refine Seq.nil ?_
            refine JC.ret ?_
            show retQ _ _ _ _ _ _ _ _
            refine ret2 (hp := Part.nil _) (hpost := ?_)
            have h9 : ¬ roundF (S * 100) Q < 18446744073709551616 := by have h8 := hbig (by omega); rw [← hA]; unfold roundF; split <;> omega
            rw [meanE, meanF, ← hQe, ← hS, if_neg (by omega), if_neg h9]
            rfl
          · -- else_t68
            refine JC.skip ?_
            refine JC.rs ?_
            refine Seq.p rfl Ev.move ?_
            refine Seq.p rfl (Ev.mulNU (a := z) (b := 2)) ?_
            refine Seq.p rfl Ev.assign ?_
            refine Seq.nil ?_
            refine JC.rs ?_
            refine Seq.p rfl (Ev.ldBA (cs := x4 (r * 2 + t)) ag.bourseref27_wide) ?_
            refine Seq.p rfl (Ev.ldBA (cs := x4 Q) ag.bourseref27_wide) ?_
            refine Seq.callP rfl (fun w hw => wideCompare (n := r * 2 + t) (m := Q) (by omega) (by omega)) ?_
            refine Seq.p rfl Ev.ge ?_
            refine Seq.nil ?_
            first | refine JC.c (ht := fun c74 => ?_) (hf := fun c74 => ?_) | refine JC.cb (ht := fun c74 => ?_) (hf := fun c74 => ?_)
            · -- then_t74
              have hc : Q ≤ r * 2 + t := by unfold cmpF at c74; split at c74 <;> omega
              rw [if_pos hc] at hD1 hD2
              refine JC.rs ?_
              refine Seq.p rfl (Ev.ldBA (cs := x4 (r * 2 + t)) ag.bourseref27_wide) ?_
              refine Seq.p rfl (Ev.ldBA (cs := x4 Q) ag.bourseref27_wide) ?_
              refine Seq.callP rfl (fun w hw => wideLess (n := r * 2 + t) (m := Q) (by omega) hc) ?_
              refine Seq.storeTo (cs' := x4 (A / 2 ^ (48 * p + b) % Q)) sz.bourseref27_wide (hH := At.z) (hfit := Nat.le_of_ble_eq_true rfl) (hcs := by rw [hD2]; rfl) (k := ?_)
              refine Seq.nil ?_
              refine JC.reg ?_
              refine Seq.p rfl Ev.move ?_
              refine Seq.p rfl (Ev.as (v' := .int .u64 ((A / 2 ^ (48 * p + b) / Q : Nat) : Int)) (by rw [hD1]) (Ev.addNU (a := z * 2) (b := 1))) ?_
              refine Seq.p rfl Ev.assign ?_
              refine Seq.nil ?_
              refine JC.reg ?_
              refine Seq.p rfl Ev.move ?_
              refine Seq.p rfl Ev.sub ?_
              refine Seq.p rfl Ev.assign ?_
              refine Seq.nil ?_
              exact ⟨b, _, Part.refl _, ⟨Has.mk (by repeat (first | refine Off.upd ?_ rfl | exact Off.mix | refine Off.mix2 ?_ rfl | exact Off.refl)) (allLook_cons (by repeat (first | exact Look.here | apply Look.there (hne := rfl) | exact Look.const | apply Look.mix rfl | exact Look.arg0 | apply Look.args | exact Look.func)) (allLook_cons (by repeat (first | exact Look.here | apply Look.there (hne := rfl) | exact Look.const | apply Look.mix rfl | exact Look.arg0 | apply Look.args | exact Look.func)) allLook_nil)), rfl, by omega, by omega⟩, by omega⟩
            · -- else_t74
              have hc : ¬ Q ≤ r * 2 + t := by unfold cmpF at c74; split at c74 <;> (try split at c74) <;> omega
              rw [if_neg hc] at hD1 hD2
              rw [Nat.add_zero] at hD1
              rw [Nat.sub_zero] at hD2
              rw [← hD1, ← hD2]
              refine JC.skip ?_
              refine JC.reg ?_
              refine Seq.p rfl Ev.move ?_
              refine Seq.p rfl Ev.sub ?_
              refine Seq.p rfl Ev.assign ?_
              refine Seq.nil ?_
              exact ⟨b, _, Part.refl _, ⟨Has.mk (by repeat (first | refine Off.upd ?_ rfl | exact Off.mix | refine Off.mix2 ?_ rfl | exact Off.refl)) (allLook_cons (by repeat (first | exact Look.here | apply Look.there (hne := rfl) | exact Look.const | apply Look.mix rfl | exact Look.arg0 | apply Look.args | exact Look.func)) (allLook_cons (by repeat (first | exact Look.here | apply Look.there (hne := rfl) | exact Look.const | apply Look.mix rfl | exact Look.arg0 | apply Look.args | exact Look.func)) allLook_nil)), rfl, by omega, by omega⟩, by omega⟩
        · -- else_t51
          obtain rfl : r = 0 := by omega
          refine JC.exit ?_ -- 4
          refine JC.reg ?_
          refine Seq.p rfl Ev.move ?_
          refine Seq.p rfl Ev.sub ?_
          refine Seq.p rfl Ev.assign ?_
          refine Seq.nil ?_
          exact ⟨p, _, Part.refl _, ⟨Has.mk (by repeat (first | refine Off.upd ?_ rfl | exact Off.mix | refine Off.mix2 ?_ rfl | exact Off.refl)) (allLook_cons (by repeat (first | exact Look.here | apply Look.there (hne := rfl) | exact Look.const | apply Look.mix rfl | exact Look.arg0 | apply Look.args | exact Look.func)) (allLook_cons (by repeat (first | exact Look.here | apply Look.there (hne := rfl) | exact Look.const | apply Look.mix rfl | exact Look.arg0 | apply Look.args | exact Look.func)) allLook_nil)), rfl, by omega, hrs⟩, by omega⟩
      · -- else_t47
        obtain rfl : q = 0 := by omega
        rw [Nat.mul_zero, Nat.pow_zero, Nat.div_one] at hqs ⊢
        have hR := Nat.mod_lt A hQ0
        have hM : meanE es = if roundF A Q < 18446744073709551616 then (roundF A Q, true) else (0, false) := by rw [meanE, meanF, ← hQe, ← hS, ← hA, if_neg (by omega)]
        obtain ⟨z, hz⟩ : ∃ z, z = A / Q := ⟨_, rfl⟩
        rw [← hz] at hqs ⊢
        refine JC.exit ?_ -- 2
        refine JC.qs mixed (by kernel_rfl) ?_
        refine Qui.p rfl (Ev.ldBA (cs := x4 (A % Q)) ag.bourseref27_wide) ?_
        refine Qui.call rfl (fun w hw => wideTimes (n := A % Q) (m := 2) (by omega) (by omega) (by omega)) ?_
        refine Qui.p rfl (Ev.ldBA (cs := x4 Q) ag.bourseref27_wide) ?_
        refine Qui.call rfl (fun w hw => wideCompare (n := A % Q * 2) (m := Q) (by omega) (by omega)) ?_
        refine Qui.p rfl Ev.assign ?_
        refine Qui.nil ?_
        refine JC.seq ?_
        refine JC.rs ?_
        refine Seq.p rfl Ev.move ?_
        refine Seq.p rfl Ev.gt ?_
        refine Seq.p rfl Ev.move ?_
        refine Seq.orG (D := [86, 87, 88, 89, 90, 91, 92, 93, 94]) (d := 86) (t := 94) (k := 8) (hn := fun h86 => ?_) (hx := ?_)
        · repeat (first | refine Seq.gn rfl rfl rfl rfl ?_ | refine Seq.gu rfl rfl rfl ?_)
          refine Seq.p rfl Ev.pickT ?_
          exact Seq.nil ⟨rfl, (by repeat (first | with_reducible exact Off.refl | refine Off.upd ?_ rfl | exact Off.mix | refine Off.mix2 ?_ rfl)), Look.here⟩
        apply Exists.intro
        refine ⟨fun h86 => ?_, fun u94 => ?_⟩
        · try simp only [decide_eq_true_eq, decide_eq_false_iff_not, Bool.and_eq_true, Bool.or_eq_true, Bool.not_eq_true', Bool.not_eq_false', Bool.or_eq_false_iff, Bool.and_eq_false_imp] at h86
          refine Seq.gy rfl rfl rfl ?_
          refine Seq.p rfl Ev.move ?_
          refine Seq.gy rfl rfl rfl ?_
          refine Seq.p rfl Ev.eq ?_
          refine Seq.gy rfl rfl rfl ?_
          refine Seq.p rfl Ev.move ?_
          refine Seq.andG (D := [89, 90, 91, 92, 93]) (d := 89) (t := 93) (k := 4) (hn := fun h89 => ?_) (hx := ?_)
          · repeat (first | refine Seq.gn rfl rfl rfl rfl ?_ | refine Seq.gu rfl rfl rfl ?_)
            refine Seq.gy rfl rfl rfl ?_
            refine Seq.p rfl Ev.pickF ?_
            exact Seq.nil ⟨rfl, (by repeat (first | with_reducible exact Off.refl | refine Off.upd ?_ rfl | exact Off.mix | refine Off.mix2 ?_ rfl)), Look.here⟩
          apply Exists.intro
          refine ⟨fun h89 => ?_, fun u93 => ?_⟩
          · try simp only [decide_eq_true_eq, decide_eq_false_iff_not, Bool.and_eq_true, Bool.or_eq_true, Bool.not_eq_true', Bool.not_eq_false', Bool.or_eq_false_iff, Bool.and_eq_false_imp] at h89
            refine Seq.gy rfl rfl rfl ?_
            refine Seq.p rfl Ev.move ?_
            refine Seq.gy rfl rfl rfl ?_
            refine Seq.p rfl (Ev.remNU (a := z) (b := 2)) ?_
            refine Seq.gy rfl rfl rfl ?_
            refine Seq.p rfl Ev.eq ?_
            refine Seq.gy rfl rfl rfl ?_
            refine Seq.p rfl Ev.pickT ?_
            exact Seq.nil ⟨rfl, (by repeat (first | with_reducible exact Off.refl | refine Off.upd ?_ rfl | exact Off.mix | refine Off.mix2 ?_ rfl)), Look.here⟩
          refine Seq.p rfl Ev.pickF ?_
          exact Seq.nil ⟨rfl, (by repeat (first | with_reducible exact Off.refl | refine Off.upd ?_ rfl | exact Off.mix | refine Off.mix2 ?_ rfl)), Look.here⟩
        refine Seq.nil ?_
        first | refine JC.c (ht := fun c94 => ?_) (hf := fun c94 => ?_) | refine JC.cb (ht := fun c94 => ?_) (hf := fun c94 => ?_)
        · -- then_t94
          rw [round_d hz] at c94
          have hX : roundF A Q = z + 1 := by rw [roundF, if_pos (of_decide_eq_true c94), hz]
          refine JC.seq ?_
          refine JC.rs ?_
          refine Seq.p rfl Ev.move ?_
          refine Seq.p rfl Ev.eq ?_
          refine Seq.nil ?_
          first | refine JC.c (ht := fun c96 => ?_) (hf := fun c96 => ?_) | refine JC.cb (ht := fun c96 => ?_) (hf := fun c96 => ?_)
          · -- then_t96
            refine JC.rs ?_
            refine Seq.p rfl Ev.assign ?_
            refine Seq.p rfl Ev.assign ?_
            refine Seq.nil ?_
            refine JC.ret ?_
            show retQ _ _ _ _ _ _ _ _
            refine ret2 (hp := Part.nil _) (hpost := ?_)
            rw [hM, hX, if_neg (by omega)]
            all_goals rfl
          · -- else_t96
            refine JC.skip ?_
            refine JC.reg ?_
            refine Seq.p rfl Ev.move ?_
            refine Seq.p rfl (Ev.addNU (a := z) (b := 1)) ?_
            refine Seq.p rfl Ev.assign ?_
            refine Seq.nil ?_
            refine JC.rs ?_
            refine Seq.p rfl Ev.move ?_
            refine Seq.p rfl Ev.assign ?_
            refine Seq.p rfl Ev.assign ?_
            refine Seq.nil ?_
            refine JC.ret ?_
            show retQ _ _ _ _ _ _ _ _
            refine ret2 (hp := Part.nil _) (hpost := ?_)
            rw [hM, hX, if_pos (by omega)]
            all_goals rfl
        · -- else_t94
          rw [round_d hz] at c94
          have hX : roundF A Q = z := by rw [roundF, if_neg (of_decide_eq_false c94), hz]
          refine JC.skip ?_
          refine JC.rs ?_
          refine Seq.p rfl Ev.move ?_
          refine Seq.p rfl Ev.assign ?_
          refine Seq.p rfl Ev.assign ?_
          refine Seq.nil ?_
          refine JC.ret ?_
          show retQ _ _ _ _ _ _ _ _
          refine ret2 (hp := Part.nil _) (hpost := ?_)
          rw [hM, hX, if_pos (by omega)]
          all_goals rfl
end Go.Rx
/- The reference's big numbers, plain: digits to the base 2^32, the lowest first, without zeros at the end. -/
namespace Go.Rx
open Go Go.RowKit
set_option linter.unusedVariables false
set_option linter.unusedSimpArgs false
def dg (n : Nat) : List Nat := if h : n = 0 then [] else (n % 4294967296) :: dg (n / 4294967296)
termination_by n
decreasing_by omega
def valF : List Nat → Nat
  | [] => 0
  | d :: l => d + 4294967296 * valF l
def digL (l : List Nat) : Prop := ∀ d ∈ l, d < 4294967296
theorem dg_zero : dg 0 = [] := by rw [dg, dif_pos rfl]
theorem dg_step {n : Nat} (h : n ≠ 0) : dg n = (n % 4294967296) :: dg (n / 4294967296) := by rw [dg, dif_neg h]
theorem valF_dg (n : Nat) : valF (dg n) = n := by
  induction n using Nat.strongRecOn with
  | _ n ih =>
    by_cases h : n = 0
    · subst h; rw [dg_zero]; rfl
    · rw [dg_step h]
      simp only [valF]
      rw [ih (n / 4294967296) (by omega)]
      omega
theorem dg_dig (n : Nat) : digL (dg n) := by
  induction n using Nat.strongRecOn with
  | _ n ih =>
    by_cases h : n = 0
    · subst h; rw [dg_zero]; intro d hd; cases hd
    · rw [dg_step h]
      intro d hd
      rcases List.mem_cons.1 hd with rfl | hd
      · omega
      · exact ih _ (by omega) d hd
theorem valF_append (a b : List Nat) : valF (a ++ b) = valF a + 4294967296 ^ a.length * valF b := by
  induction a with
  | nil => simp [valF]
  | cons d l ih =>
    simp only [List.cons_append, valF, List.length_cons, ih]
    rw [Nat.mul_add, ← Nat.mul_assoc, Nat.pow_succ, Nat.mul_comm (4294967296 ^ l.length) 4294967296, Nat.add_assoc]
theorem valF_lt {l : List Nat} (h : digL l) : valF l < 4294967296 ^ l.length := by
  induction l with
  | nil => simp [valF]
  | cons d l ih =>
    have h1 := h d (List.mem_cons_self ..)
    have h2 := ih (fun x hx => h x (List.mem_cons_of_mem _ hx))
    simp only [valF, List.length_cons, Nat.pow_succ]
    have : 4294967296 * (valF l + 1) ≤ 4294967296 * 4294967296 ^ l.length := Nat.mul_le_mul_left _ h2
    omega
theorem valF_zeros {l : List Nat} (h : ∀ j, j < l.length → l[j]! = 0) : valF l = 0 := by
  induction l with
  | nil => rfl
  | cons d l ih =>
    have h0 : d = 0 := h 0 (by simp)
    have h1 := ih (fun j hj => by simpa using h (j + 1) (by simpa using hj))
    simp only [valF, h0, h1]
theorem dg_unique : ∀ (l : List Nat), digL l → (l = [] ∨ l[l.length - 1]! ≠ 0) → dg (valF l) = l ∧ (l ≠ [] → valF l ≠ 0)
  | [], _, _ => ⟨dg_zero, fun h => absurd rfl h⟩
  | [d], hd, hl => by
    have h1 := hd d (List.mem_cons_self ..)
    have h2 : d ≠ 0 := by simpa using hl
    have e : valF [d] = d := by simp [valF]
    rw [e]
    refine ⟨?_, fun _ => h2⟩
    rw [dg_step h2, show d / 4294967296 = 0 by omega, dg_zero, show d % 4294967296 = d by omega]
  | d :: x :: l, hd, hl => by
    have h1 := hd d (List.mem_cons_self ..)
    obtain ⟨h2, h3⟩ := dg_unique (x :: l) (fun y hy => hd y (List.mem_cons_of_mem _ hy)) (.inr (by simpa using hl))
    have h4 := h3 (by simp)
    have e : valF (d :: x :: l) = d + 4294967296 * valF (x :: l) := rfl
    generalize valF (x :: l) = m at h2 h4 e
    rw [e]
    refine ⟨?_, fun _ => by omega⟩
    rw [dg_step (by omega), show (d + 4294967296 * m) / 4294967296 = m by omega, h2, show (d + 4294967296 * m) % 4294967296 = d by omega]
theorem dg_take {D : List Nat} {n : Nat} (hD : digL D) (hn : n ≤ D.length) (hz : ∀ j, n ≤ j → j < D.length → D[j]! = 0) (h0 : n = 0 ∨ D[n - 1]! ≠ 0) : D.take n = dg (valF D) := by
  have hl : (D.take n).length = n := by rw [List.length_take]; omega
  have hv : valF D = valF (D.take n) := by
    have h1 : valF D = valF (D.take n ++ D.drop n) := by rw [List.take_append_drop]
    rw [h1, valF_append, valF_zeros (l := D.drop n)]
    · omega
    · intro j hj
      rw [List.length_drop] at hj
      rw [getElem!_pos _ j (by rw [List.length_drop]; exact hj), List.getElem_drop, ← getElem!_pos D (n + j) (by omega)]
      exact hz (n + j) (by omega) (by omega)
  rw [hv]
  refine ((dg_unique _ (fun d hd => hD d (List.mem_of_mem_take hd)) ?_).1).symm
  rcases h0 with h0 | h0
  · left; rw [h0, List.take_zero]
  · by_cases hn0 : n = 0
    · left; rw [hn0, List.take_zero]
    · right
      rw [hl, getElem!_pos _ (n - 1) (by omega), List.getElem_take, ← getElem!_pos D (n - 1) (by omega)]
      exact h0
theorem valF_take {a : List Nat} {i : Nat} (hi : i < a.length) : valF (a.take (i + 1)) = valF (a.take i) + 4294967296 ^ i * a[i]! := by
  rw [List.take_succ_eq_append_getElem hi, valF_append, List.length_take, Nat.min_eq_left (by omega), getElem!_pos a i hi]
  simp [valF]
theorem valF_split {a : List Nat} {i : Nat} (hi : i < a.length) : valF a = valF (a.take i) + 4294967296 ^ i * (a[i]! + 4294967296 * valF (a.drop (i + 1))) := by
  have h : valF a = valF (a.take i ++ a.drop i) := by rw [List.take_append_drop]
  rw [h, valF_append, List.length_take, Nat.min_eq_left (by omega), List.drop_eq_getElem_cons hi, getElem!_pos a i hi]
  rfl
theorem cmp_at {a b : List Nat} {i : Nat} (ha : digL a) (hb : digL b) (hl : a.length = b.length) (hi : i < a.length) (heq : ∀ j, i < j → j < a.length → a[j]! = b[j]!) (h : a[i]! < b[i]!) : valF a < valF b := by
  have e : a.drop (i + 1) = b.drop (i + 1) := by
    refine List.ext_getElem (by rw [List.length_drop, List.length_drop, hl]) (fun j h1 h2 => ?_)
    rw [List.length_drop] at h1 h2
    rw [List.getElem_drop, List.getElem_drop, ← getElem!_pos a (i + 1 + j) (by omega), ← getElem!_pos b (i + 1 + j) (by omega)]
    exact heq _ (by omega) (by omega)
  have h1 := valF_lt (l := a.take i) (fun d hd => ha d (List.mem_of_mem_take hd))
  rw [List.length_take, Nat.min_eq_left (by omega)] at h1
  rw [valF_split hi, valF_split (a := b) (i := i) (by omega), e]
  generalize valF (b.drop (i + 1)) = t
  have h2 : 4294967296 ^ i * (a[i]! + 4294967296 * t + 1) ≤ 4294967296 ^ i * (b[i]! + 4294967296 * t) := Nat.mul_le_mul_left _ (by omega)
  rw [Nat.mul_add, Nat.mul_one] at h2
  omega
theorem dg_len_lt (n : Nat) : n < 4294967296 ^ (dg n).length := by
  have := valF_lt (dg_dig n)
  rwa [valF_dg] at this
theorem dg_len_ge {n : Nat} (h : n ≠ 0) : 4294967296 ^ ((dg n).length - 1) ≤ n ∧ 1 ≤ (dg n).length := by
  induction n using Nat.strongRecOn with
  | _ n ih =>
    rw [dg_step h, List.length_cons, Nat.add_sub_cancel]
    refine ⟨?_, by omega⟩
    by_cases h2 : n / 4294967296 = 0
    · rw [h2, dg_zero]
      simp
      omega
    · obtain ⟨h3, h4⟩ := ih (n / 4294967296) (by omega) h2
      have e : (dg (n / 4294967296)).length = (dg (n / 4294967296)).length - 1 + 1 := by omega
      rw [e, Nat.pow_succ]
      have h5 : 4294967296 ^ ((dg (n / 4294967296)).length - 1) * 4294967296 ≤ n / 4294967296 * 4294967296 := Nat.mul_le_mul_right _ h3
      omega
theorem dg_cmp_len {n m : Nat} (h : (dg n).length < (dg m).length) : n < m := by
  by_cases hm : m = 0
  · subst hm; rw [dg_zero] at h; simp at h
  · obtain ⟨h1, h2⟩ := dg_len_ge hm
    have h3 := dg_len_lt n
    have h4 : 4294967296 ^ (dg n).length ≤ 4294967296 ^ ((dg m).length - 1) := Nat.pow_le_pow_right (by decide) (by omega)
    omega
theorem dg_len_le {n k : Nat} (h : n < 4294967296 ^ k) : (dg n).length ≤ k := by
  by_cases h0 : n = 0
  · subst h0; rw [dg_zero]; simp
  · obtain ⟨h1, h2⟩ := dg_len_ge h0
    rcases Nat.lt_or_ge k (dg n).length with h3 | h3
    · have h4 : 4294967296 ^ k ≤ 4294967296 ^ ((dg n).length - 1) := Nat.pow_le_pow_right (by decide) (by omega)
      omega
    · exact h3
theorem dg_inj {n m : Nat} (h : dg n = dg m) : n = m := by rw [← valF_dg n, h, valF_dg]
theorem dg_get {n i : Nat} (hi : i < (dg n).length) : (dg n)[i]! = n / 4294967296 ^ i % 4294967296 := by
  induction i generalizing n with
  | zero =>
    by_cases h : n = 0
    · subst h; rw [dg_zero] at hi; simp at hi
    · rw [dg_step h]; simp
  | succ i ih =>
    by_cases h : n = 0
    · subst h; rw [dg_zero] at hi; simp at hi
    · rw [dg_step h] at hi ⊢
      have := ih (n := n / 4294967296) (by simpa using hi)
      rw [Nat.pow_succ, Nat.mul_comm, ← Nat.div_div_eq_div_mul, ← this]
      simp
theorem valF_set {r : List Nat} {k d : Nat} (hk : k < r.length) : valF (r.set k d) + 4294967296 ^ k * r[k]! = valF r + 4294967296 ^ k * d := by
  have h1 : k < (r.set k d).length := by rw [List.length_set]; exact hk
  rw [valF_split h1, valF_split hk]
  have e1 : (r.set k d).take k = r.take k := by rw [List.take_set_of_le (by omega)]
  have e2 : (r.set k d).drop (k + 1) = r.drop (k + 1) := by rw [List.drop_set_of_lt (by omega)]
  have e3 : (r.set k d)[k]! = d := by rw [getElem!_pos _ k h1]; simp
  rw [e1, e2, e3, Nat.mul_add, Nat.mul_add]
  omega
theorem carry_step (p t : Nat) : p * (t % 4294967296) + t / 4294967296 * (p * 4294967296) = p * t := by
  have h1 : t / 4294967296 * (p * 4294967296) = p * (4294967296 * (t / 4294967296)) := by rw [Nat.mul_comm, Nat.mul_assoc]
  rw [h1, ← Nat.mul_add, Nat.add_comm, Nat.div_add_mod]
def atD (a : List Nat) (i : Nat) : Nat := if i < a.length then a[i]! else 0
theorem valF_takeD (a : List Nat) (i : Nat) : valF (a.take (i + 1)) = valF (a.take i) + 4294967296 ^ i * atD a i := by
  unfold atD
  split
  · rename_i h; exact valF_take h
  · rename_i h; rw [List.take_of_length_le (by omega), List.take_of_length_le (by omega)]; simp
theorem atD_lt {a : List Nat} (ha : digL a) (i : Nat) : atD a i < 4294967296 := by
  unfold atD
  split
  · rename_i h
    rw [getElem!_pos a i h]
    exact ha _ (List.getElem_mem h)
  · decide
theorem plus_step {a b R : List Nat} {i c t : Nat} (hR : R.length = i) (h : valF R + c * 4294967296 ^ i = valF (a.take i) + valF (b.take i)) (ht : t = c + atD a i + atD b i) :
    valF (R ++ [t % 4294967296]) + t / 4294967296 * 4294967296 ^ (i + 1) = valF (a.take (i + 1)) + valF (b.take (i + 1)) := by
  have h1 := carry_step (4294967296 ^ i) t
  rw [valF_append, hR, valF_takeD, valF_takeD, Nat.pow_succ]
  simp only [valF, Nat.mul_zero, Nat.add_zero]
  have h2 : 4294967296 ^ i * t = 4294967296 ^ i * c + 4294967296 ^ i * atD a i + 4294967296 ^ i * atD b i := by rw [ht, Nat.mul_add, Nat.mul_add]
  rw [Nat.mul_comm c] at h
  omega
theorem minus_step {a b R : List Nat} {i w v w' : Nat} (hR : R.length = i) (h : valF R + valF (b.take i) = valF (a.take i) + w * 4294967296 ^ i) (hv : v + w + atD b i = atD a i + 4294967296) (hw' : w' + v / 4294967296 = 1) :
    valF (R ++ [v % 4294967296]) + valF (b.take (i + 1)) = valF (a.take (i + 1)) + w' * 4294967296 ^ (i + 1) := by
  rw [valF_append, hR, valF_takeD, valF_takeD, Nat.pow_succ]
  simp only [valF, Nat.mul_zero, Nat.add_zero]
  have h1 : v % 4294967296 + atD b i + w = atD a i + w' * 4294967296 := by omega
  have h2 : 4294967296 ^ i * (v % 4294967296 + atD b i + w) = 4294967296 ^ i * (atD a i + w' * 4294967296) := by rw [h1]
  rw [Nat.mul_add, Nat.mul_add, Nat.mul_add] at h2
  have h3 : w' * (4294967296 ^ i * 4294967296) = 4294967296 ^ i * (w' * 4294967296) := Nat.mul_left_comm ..
  rw [Nat.mul_comm w] at h
  omega
theorem times_step {r b : List Nat} {i j x c v X : Nat} (hk : i + j < r.length) (hj : j < b.length) (h : valF r + c * 4294967296 ^ (i + j) = X + x * 4294967296 ^ i * valF (b.take j)) (hv : v = x * b[j]! + r[i + j]! + c) :
    valF (r.set (i + j) (v % 4294967296)) + v / 4294967296 * 4294967296 ^ (i + (j + 1)) = X + x * 4294967296 ^ i * valF (b.take (j + 1)) := by
  have h1 := carry_step (4294967296 ^ (i + j)) v
  have h2 := valF_set (r := r) (d := v % 4294967296) hk
  have h3 : 4294967296 ^ (i + j) * v = 4294967296 ^ (i + j) * (x * b[j]!) + 4294967296 ^ (i + j) * r[i + j]! + 4294967296 ^ (i + j) * c := by rw [hv, Nat.mul_add, Nat.mul_add]
  have h4 : x * 4294967296 ^ i * valF (b.take (j + 1)) = x * 4294967296 ^ i * valF (b.take j) + 4294967296 ^ (i + j) * (x * b[j]!) := by
    rw [valF_take hj, Nat.mul_add]
    congr 1
    rw [Nat.pow_add, Nat.mul_assoc, Nat.mul_assoc, Nat.mul_left_comm, Nat.mul_left_comm x]
  rw [h4, ← Nat.add_assoc, Nat.pow_succ]
  rw [Nat.mul_comm c] at h
  omega
end Go.Rx
/- The reference's big numbers, walked: trimmed, of, compare, plus, minus. -/
namespace Go.Rx
open Go Go.RowKit
set_option linter.unusedVariables false
set_option linter.unusedSimpArgs false
section
variable {P : Program} {n : Nat} {ops : Array Oper} {w0 : World} {Cs H : List Chunk} {e : Env} {K : Env → List Chunk → Prop} {rest : List Oper} {t : Nat} {ty : TypeId} {pos : String} {af : Array Edge} {x y : Operand}
theorem Seq.mkSlZ {ts el : TypeId} {bytes c : Nat} {k0 k kz : IntKind} (ht : Nat.blt t n = true := by rfl) (hsl : slcOf P ts el 1 = true) (he : elOf P el 1 bytes = true) (hz0 : zeroOf P el = some (.int kz 0))
    (hx : Look e x (.int k0 (c : Int)) := by repeat (first | exact Look.here | apply Look.there (hne := rfl) | exact Look.const | apply Look.mix rfl | exact Look.arg0 | apply Look.args | exact Look.func)) (hy : Look e y (.int k (c : Int)) := by repeat (first | exact Look.here | apply Look.there (hne := rfl) | exact Look.const | apply Look.mix rfl | exact Look.arg0 | apply Look.args | exact Look.func)) (h63 : c ≤ 4611686018427387904 := by omega) (hb : bytes * c ≤ 281474976710656 := by omega) (hm : c ≤ maxLen)
    (kk : ∀ b, Seq P n ops w0 Cs rest (.own el 1 (.slice (some ⟨b, 0, none⟩) c c) c (List.replicate c (.int kz 0)) :: H) (upd e t (.slice (some ⟨b, 0, none⟩) c c)) K) :
    Seq P n ops w0 Cs (⟨some t, .makeSlice ts x y, ty, pos, af, none⟩ :: rest) H e K := by
  refine Seq.f ht (R := fun v H' => ∃ b, v = .slice (some ⟨b, 0, none⟩) c c ∧ H' = .own el 1 (.slice (some ⟨b, 0, none⟩) c c) c (List.replicate c (.int kz 0)) :: H) ?_ ?_
  · intro w hw d pos af g
    obtain ⟨i, z, hi2, hsize, hbytes, hpos, hz, hzs⟩ := elOf_parts he
    have hz2 : z = .int kz 0 := by
      unfold zeroOf at hz0
      rw [hi2] at hz0
      simp only [Option.bind_some] at hz0
      rw [hz] at hz0
      exact Option.some.inj hz0
    subst hz2
    have hr := run_make (P := P) w ts el i (.int kz 0) (slcOf_und hsl).1 hi2 hz k0 k c c (by omega) (Int.le_refl _) (by
      have h : ((bytes * c : Nat) : Int) ≤ 281474976710656 := by omega
      rw [← hbytes] at h
      rwa [Int.natCast_mul] at h) (by omega)
    simp only [Int.toNat_natCast] at hr
    rw [hsize, Nat.mul_one] at hr
    refine ⟨.slice (some ⟨w.heap.size, 0, none⟩) c c, w.alloc (.cells (madeCells (Value.int kz 0).cells c) el), .own el 1 (.slice (some ⟨w.heap.size, 0, none⟩) c c) c (List.replicate c (.int kz 0)) :: H, .inl (by simp [execOp, hx.eq, hy.eq, hr]), ?_, _, rfl, rfl⟩
    have h2 := hw.alloc (.cells (madeCells (Value.int kz 0).cells c) el)
    refine (h2.at_ At.z (k := ?_))
    have ho := h2.own.ok _ (List.mem_cons_self ..)
    refine ⟨rfl, rfl, rfl, Nat.le_refl _, fun _ _ _ => rfl, ⟨?_, List.pairwise_singleton _ _⟩, ?_⟩
    · intro c2 hc
      simp only [List.mem_singleton] at hc
      subst hc
      refine ⟨by simp, .inr ⟨w.heap.size, 0, c, _, _, rfl, ho, Nat.le_refl _, hm, ?_, by intro j _ _ h; simp at h, ?_⟩⟩
      · rw [size_madeCells]; omega
      · have e1 : (Value.int kz 0).cells = #[.int kz 0] := rfl
        rw [e1, toList_madeCells_one]
        simp
    · intro c2 hc j hj
      simp only [List.mem_singleton] at hc
      subst hc
      simp [Chunk.fp, Value.ownBlock] at hj
      exact .inl ⟨_, List.mem_singleton.2 rfl, hj.symm⟩
  · rintro v H' ⟨b, rfl, rfl⟩
    exact kk b
theorem Ev.moveN {k : IntKind} {a b : Nat} (hx : Look e x (.int k (a : Int)) := by repeat (first | exact Look.here | apply Look.there (hne := rfl) | exact Look.const | apply Look.mix rfl | exact Look.arg0 | apply Look.args | exact Look.func)) (h : a = b := by omega) : Ev P w0 Cs H e (.move x) ty (.int k (b : Int)) := h ▸ Ev.move hx
end
def numEnc (d : Nat) : List Value := [.int .u32 (d : Int)]
theorem numOne : ∀ (x : Nat), ∀ u ∈ numEnc x, u.oneCell' = true := by
  intro x u hu
  simp [numEnc] at hu
  subst hu
  rfl
abbrev bigL (v : Value) (D : List Nat) : Chunk := .own 42 1 v D.length (D.flatMap numEnc)
def BigPost (n : Nat) (u : Value) (H' : List Chunk) : Prop := ∃ A c, u = .slice A (dg n).length c ∧ H' = [bigL u (dg n)]
theorem subSl_len {v : Value} {A : Option Addr} {n c lo hi sz : Nat} (hv : v = .slice A n c) : ∃ A' c', subSl v lo hi sz = .slice A' (hi - lo) c' := by subst hv; exact ⟨_, _, rfl⟩
set_option maxHeartbeats 1000000 in
set_option maxRecDepth 100000 in
theorem refTrimmed {w : World} {A : Option Addr} {c : Nat} {D : List Nat} (hO : Own w [bigL (.slice A D.length c) D]) (hD : digL D) (hs : D.length ≤ 4611686018427387904) : Spec Go.Proofs.Try.prog 60 #[.slice A D.length c] w [bigL (.slice A D.length c) D] (BigPost (valF D)) := by
  refine Spec.enter (fn := Go.Proofs.Try.f60) (n := 21) [.slice A D.length c] Go.Proofs.Try.func60 (by kernel_rfl) rfl Go.Proofs.Try.ntmps60 Go.Proofs.Try.results60 rfl hO ?_
  refine JC.rs ?_
  refine Seq.p rfl Ev.assign ?_
  refine Seq.nil ?_
  refine JC.rs ?_
  refine Seq.p rfl Ev.move ?_
  refine Seq.p rfl (Ev.lenSl sl.bourseref01_big (hr := RAt.own (enc := numEnc) (v := .slice A D.length c) (xs := D) (hs := by omega))) ?_
  refine Seq.p rfl Ev.assign ?_
  refine Seq.nil ?_
  refine JC.seq ?_
  refine JC.blk ?_
  refine JC.loop (α := Nat) (I := fun i e1 H1 => Has [3, 6, 7, 8, 9, 10, 11, 12, 13, 14, 15, 16, 17] [(3, .int .i64 (i : Int))] _ e1 ∧ H1 = [bigL (.slice A D.length c) D] ∧ i ≤ D.length ∧ ∀ j, i ≤ j → j < D.length → D[j]! = 0) (μ := fun i => i) D.length ⟨Has.mk Off.refl (allLook_cons (by repeat (first | exact Look.here | apply Look.there (hne := rfl) | exact Look.const | apply Look.mix rfl | exact Look.arg0 | apply Look.args | exact Look.func)) allLook_nil), rfl, Nat.le_refl _, fun j h1 h2 => by omega⟩ ?_
  rintro i _ _ ⟨⟨u, rfl⟩, rfl, hi, hz⟩; dsimp only [setL]
  refine JC.seq ?_
  refine JC.rs ?_
  refine Seq.p rfl Ev.move ?_
  refine Seq.p rfl Ev.gt ?_
  refine Seq.p rfl Ev.move ?_
  refine Seq.andG (D := [8, 9, 10, 11, 12, 13, 14, 15]) (d := 8) (t := 15) (k := 7) (hn := fun h8 => ?_) (hx := ?_)
  · repeat (first | refine Seq.gn rfl rfl rfl rfl ?_ | refine Seq.gu rfl rfl rfl ?_)
    refine Seq.p rfl Ev.pickF ?_
    exact Seq.nil ⟨rfl, (by repeat (first | with_reducible exact Off.refl | refine Off.upd ?_ rfl | exact Off.mix | refine Off.mix2 ?_ rfl)), Look.here⟩
  apply Exists.intro
  refine ⟨fun h8 => ?_, fun u15 => ?_⟩
  · try simp only [decide_eq_true_eq, decide_eq_false_iff_not, Bool.and_eq_true, Bool.or_eq_true, Bool.not_eq_true', Bool.not_eq_false', Bool.or_eq_false_iff, Bool.and_eq_false_imp] at h8
    have hi1 : 1 ≤ i := by omega
    refine Seq.gy rfl rfl rfl ?_
    refine Seq.p rfl Ev.move ?_
    refine Seq.gy rfl rfl rfl ?_
    refine Seq.p rfl Ev.move ?_
    refine Seq.gy rfl rfl rfl ?_
    refine Seq.p rfl Ev.dec ?_
    refine Seq.gy rfl rfl rfl ?_
    refine Seq.p rfl (Ev.iaN sl.bourseref01_big (i := i - 1) (hr := RAt.own (enc := numEnc) (v := .slice A D.length c) (xs := D) (hs := by omega))) ?_
    refine Seq.gy rfl rfl rfl ?_
    refine Seq.p rfl (Ev.ldE1 sc.uint32 (i := i - 1) (hr := RAt.own (enc := numEnc) (v := .slice A D.length c) (xs := D) (hs := by omega))) ?_
    refine Seq.gy rfl rfl rfl ?_
    refine Seq.p rfl Ev.eq ?_
    refine Seq.p rfl Ev.pickT ?_
    exact Seq.nil ⟨rfl, (by repeat (first | with_reducible exact Off.refl | refine Off.upd ?_ rfl | exact Off.mix | refine Off.mix2 ?_ rfl)), Look.here⟩
  refine Seq.nil ?_
  first | refine JC.c (ht := fun c15 => ?_) (hf := fun c15 => ?_) | refine JC.cb (ht := fun c15 => ?_) (hf := fun c15 => ?_)
  · -- then_t15
    simp only [Bool.and_eq_true, decide_eq_true_eq] at c15
    have hi1 : 1 ≤ i := by omega
    refine JC.skip ?_
    refine JC.blk ?_
    refine JC.reg ?_
    refine Seq.p rfl Ev.move ?_
    refine Seq.p rfl Ev.dec ?_
    refine Seq.p rfl Ev.assign ?_
    refine Seq.nil ?_
    exact ⟨i - 1, _, Part.refl _, ⟨Has.mk (by repeat (first | refine Off.upd ?_ rfl | exact Off.mix | refine Off.mix2 ?_ rfl | exact Off.refl)) (allLook_cons (by repeat (first | exact Look.here | apply Look.there (hne := rfl) | exact Look.const | apply Look.mix rfl | exact Look.arg0 | apply Look.args | exact Look.func)) allLook_nil), rfl, by omega, fun j h1 h2 => by
      rcases Nat.lt_or_ge j i with h3 | h3
      · rw [show j = i - 1 by omega]; omega
      · exact hz j h3 h2⟩, by omega⟩
  · -- else_t15
    simp only [Bool.and_eq_false_iff, decide_eq_false_iff_not] at c15
    refine JC.exit ?_ -- 0
    refine JC.rs ?_
    refine Seq.p rfl Ev.move ?_
    refine Seq.p rfl Ev.move ?_
    refine Seq.p rfl (Ev.cut sl.bourseref01_big (hr := RAt.own (enc := numEnc) (v := .slice A D.length c) (xs := D) (hs := by omega)) (l := 0) (h := i) (hlo := rfl) (hhi := ⟨_, (by repeat (first | exact Look.here | apply Look.there (hne := rfl) | exact Look.const | apply Look.mix rfl | exact Look.arg0 | apply Look.args | exact Look.func))⟩)) ?_
    refine Seq.p rfl Ev.assign ?_
    refine Seq.nil ?_
    refine JC.re (fun w h => Upd.reslice (enc := numEnc) (lo := 0) (hi := i) h At.z (fun _ => rfl) (Nat.zero_le _) hi) ?_
    refine JC.ret ?_
    show retQ _ _ _ _ _ _ _ _
    refine ret1 (hp := Part.refl _) (hpost := ?_)
    have e : (D.drop 0).take (i - 0) = dg (valF D) := by rw [List.drop_zero, Nat.sub_zero]; exact dg_take hD hi hz (by omega)
    have hl : (dg (valF D)).length = i := by rw [← e, List.length_take, List.length_drop]; omega
    obtain ⟨A', c', hv⟩ := subSl_len (v := .slice A D.length c) (lo := 0) (hi := i) (sz := 1) rfl
    rw [e, hv]
    exact ⟨A', c', by rw [hl]; rfl, rfl⟩
set_option maxHeartbeats 1000000 in
set_option maxRecDepth 100000 in
theorem refOf {w : World} {n : Nat} (hn : n < 18446744073709551616) : Spec Go.Proofs.Try.prog 55 #[.int .u64 (n : Int)] w [] (BigPost n) := by
  have hd : digL [n % 4294967296, n / 4294967296] := by
    intro d hd
    simp only [List.mem_cons, List.not_mem_nil, or_false] at hd
    rcases hd with rfl | rfl <;> omega
  have hv : valF [n % 4294967296, n / 4294967296] = n := by simp only [valF]; omega
  refine Spec.enter (fn := Go.Proofs.Try.f55) (n := 11) [.int .u64 (n : Int)] Go.Proofs.Try.func55 (by kernel_rfl) rfl Go.Proofs.Try.ntmps55 Go.Proofs.Try.results55 rfl (Own.nil _) ?_
  refine JC.rs ?_
  refine Seq.p rfl Ev.assign ?_
  refine Seq.nil ?_
  refine JC.rs ?_
  refine Seq.p rfl Ev.move ?_
  refine Seq.p rfl (Ev.remNU (a := n) (b := 4294967296)) ?_
  refine Seq.p rfl (Ev.convU32 it.uint64 it.uint32) ?_
  refine Seq.p rfl Ev.move ?_
  refine Seq.p rfl (Ev.shrNU 4294967296) ?_
  refine Seq.p rfl (Ev.convU32 it.uint64 it.uint32) ?_
  refine Seq.buildSlN [.int .u32 ((n % 4294967296 : Nat) : Int), .int .u32 ((n / 4294967296 : Nat) : Int)] (hsl := sl.bourseref01_big) (hz := z.uint32) (k := ?_); intro b9
  refine Seq.re (fun w h => Upd.boxOwn h (n := 2) (size := 1) At.z rfl (by omega)) ?_
  refine Seq.call rfl (fun w' hw => refTrimmed (D := [n % 4294967296, n / 4294967296]) (hw.part (Part.here (Part.nil _))).own hd (by simp)) (Gs := [_]) (F := []) (by exact List.Perm.refl _) ?_
  rintro u H' hP
  rw [hv] at hP
  obtain ⟨A', c', rfl, rfl⟩ := hP
  simp only [List.cons_append, List.nil_append]
  refine Seq.p rfl Ev.assign ?_
  refine Seq.nil ?_
  refine JC.ret ?_
  show retQ _ _ _ _ _ _ _ _
  refine ret1 (hp := Part.refl _) (hpost := ?_)
  exact ⟨A', c', rfl, rfl⟩
set_option maxHeartbeats 1000000 in
set_option maxRecDepth 100000 in
theorem refCompare {w : World} {va vb : Value} {n m : Nat} (ha : RSl numEnc 1 w [] va (dg n)) (hb : RSl numEnc 1 w [] vb (dg m)) : Spec Go.Proofs.Try.prog 52 #[va, vb] w [] (fun u _ => u = .int .i64 (cmpF n m)) := by
  have hs1 := ha.small
  have hs2 := hb.small
  have hg1 := dg_dig n
  have hg2 := dg_dig m
  refine Spec.enter (fn := Go.Proofs.Try.f52) (n := 41) [va, vb] Go.Proofs.Try.func52 (by kernel_rfl) rfl Go.Proofs.Try.ntmps52 Go.Proofs.Try.results52 rfl (Own.nil _) ?_
  refine JC.rs ?_
  refine Seq.p rfl Ev.assign ?_
  refine Seq.nil ?_
  refine JC.seq ?_
  refine JC.rs ?_
  refine Seq.p rfl Ev.move ?_
  refine Seq.p rfl (Ev.lenSl sl.bourseref01_big (hr := ha.r)) ?_
  refine Seq.p rfl Ev.move ?_
  refine Seq.p rfl (Ev.lenSl sl.bourseref01_big (hr := hb.r)) ?_
  refine Seq.p rfl Ev.ne ?_
  refine Seq.nil ?_
  first | refine JC.c (ht := fun c10 => ?_) (hf := fun c10 => ?_) | refine JC.cb (ht := fun c10 => ?_) (hf := fun c10 => ?_)
  · -- then_t10
    refine JC.seq ?_
    refine JC.rs ?_
    refine Seq.p rfl Ev.move ?_
    refine Seq.p rfl (Ev.lenSl sl.bourseref01_big (hr := ha.r)) ?_
    refine Seq.p rfl Ev.move ?_
    refine Seq.p rfl (Ev.lenSl sl.bourseref01_big (hr := hb.r)) ?_
    refine Seq.p rfl Ev.lt ?_
    refine Seq.nil ?_
    first | refine JC.c (ht := fun c15 => ?_) (hf := fun c15 => ?_) | refine JC.cb (ht := fun c15 => ?_) (hf := fun c15 => ?_)
    · -- then_t15
      refine JC.rs ?_
      refine Seq.p rfl Ev.assign ?_
      refine Seq.nil ?_
      refine JC.ret ?_
      show retQ _ _ _ _ _ _ _ _
      refine ret1 (hp := Part.nil _) (hpost := ?_)
      have h := dg_cmp_len (n := n) (m := m) (by omega)
      unfold cmpF
      rw [if_pos h]
    · -- else_t15
      refine JC.skip ?_
      refine JC.rs ?_
      refine Seq.p rfl Ev.assign ?_
      refine Seq.nil ?_
      refine JC.ret ?_
      show retQ _ _ _ _ _ _ _ _
      refine ret1 (hp := Part.nil _) (hpost := ?_)
      have h := dg_cmp_len (n := m) (m := n) (by omega)
      unfold cmpF
      rw [if_neg (by omega), if_neg (by omega)]
  · -- else_t10
    have hl : (dg n).length = (dg m).length := by omega
    refine JC.skip ?_
    refine JC.seq ?_
    refine JC.rs ?_
    refine Seq.p rfl Ev.move ?_
    refine Seq.p rfl (Ev.lenSl sl.bourseref01_big (hr := ha.r)) ?_
    refine Seq.p rfl Ev.sub ?_
    refine Seq.p rfl Ev.assign ?_
    refine Seq.nil ?_
    refine JC.blk ?_
    refine JC.loop (α := Nat) (I := fun i e1 H1 => Has [4, 5, 19, 20, 21, 22, 23, 24, 25, 26, 27, 28, 29, 30, 31, 32, 33, 34, 35, 36, 37, 38, 39, 40] [(5, .int .i64 ((i : Int) - 1))] _ e1 ∧ H1 = [] ∧ i ≤ (dg n).length ∧ ∀ j, i ≤ j → j < (dg n).length → (dg n)[j]! = (dg m)[j]!) (μ := fun i => i) (dg n).length ⟨Has.mk Off.refl (allLook_cons (by repeat (first | exact Look.here | apply Look.there (hne := rfl) | exact Look.const | apply Look.mix rfl | exact Look.arg0 | apply Look.args | exact Look.func)) allLook_nil), rfl, Nat.le_refl _, fun j h1 h2 => by omega⟩ ?_
    rintro i _ _ ⟨⟨u, rfl⟩, rfl, hi, heq⟩; dsimp only [setL]
    refine JC.seq ?_
    refine JC.rs ?_
    refine Seq.p rfl Ev.move ?_
    refine Seq.p rfl Ev.ge ?_
    refine Seq.nil ?_
    first | refine JC.c (ht := fun c20 => ?_) (hf := fun c20 => ?_) | refine JC.cb (ht := fun c20 => ?_) (hf := fun c20 => ?_)
    · -- then_t20
      obtain ⟨q, rfl⟩ : ∃ q, i = q + 1 := ⟨i - 1, by omega⟩
      have hqi : ((q + 1 : Nat) : Int) - 1 = (q : Int) := by omega
      rw [hqi]
      refine JC.skip ?_
      refine JC.seq ?_
      refine JC.blk ?_
      refine JC.seq ?_
      refine JC.qs mixed (by kernel_rfl) ?_
      refine Qui.p rfl Ev.move ?_
      refine Qui.p rfl Ev.move ?_
      refine Qui.p rfl (Ev.iaN sl.bourseref01_big (hr := ha.r)) ?_
      refine Qui.p rfl (Ev.ldE1 sc.uint32 (hr := ha.r)) ?_
      refine Qui.p rfl Ev.move ?_
      refine Qui.p rfl Ev.move ?_
      refine Qui.p rfl (Ev.iaN sl.bourseref01_big (hr := hb.r)) ?_
      refine Qui.p rfl (Ev.ldE1 sc.uint32 (hr := hb.r)) ?_
      refine Qui.p rfl Ev.lt ?_
      refine Qui.nil ?_
      first | refine JC.c (ht := fun c31 => ?_) (hf := fun c31 => ?_) | refine JC.cb (ht := fun c31 => ?_) (hf := fun c31 => ?_)
      · -- then_t31
        refine JC.rs ?_
        refine Seq.p rfl Ev.assign ?_
        refine Seq.nil ?_
        refine JC.ret ?_
        show retQ _ _ _ _ _ _ _ _
        refine ret1 (hp := Part.nil _) (hpost := ?_)
        have h := cmp_at (i := q) hg1 hg2 hl (by omega) (fun j h1 h2 => heq j (by omega) h2) (by omega)
        rw [valF_dg, valF_dg] at h
        unfold cmpF
        rw [if_pos h]
      · -- else_t31
        refine JC.skip ?_
        refine JC.qs mixed (by kernel_rfl) ?_
        refine Qui.p rfl Ev.move ?_
        refine Qui.p rfl Ev.move ?_
        refine Qui.p rfl (Ev.iaN sl.bourseref01_big (hr := ha.r)) ?_
        refine Qui.p rfl (Ev.ldE1 sc.uint32 (hr := ha.r)) ?_
        refine Qui.p rfl Ev.move ?_
        refine Qui.p rfl Ev.move ?_
        refine Qui.p rfl (Ev.iaN sl.bourseref01_big (hr := hb.r)) ?_
        refine Qui.p rfl (Ev.ldE1 sc.uint32 (hr := hb.r)) ?_
        refine Qui.p rfl Ev.gt ?_
        refine Qui.nil ?_
        first | refine JC.c (ht := fun c40 => ?_) (hf := fun c40 => ?_) | refine JC.cb (ht := fun c40 => ?_) (hf := fun c40 => ?_)
        · -- then_t40
          refine JC.rs ?_
          refine Seq.p rfl Ev.assign ?_
          refine Seq.nil ?_
          refine JC.ret ?_
          show retQ _ _ _ _ _ _ _ _
          refine ret1 (hp := Part.nil _) (hpost := ?_)
          have h := cmp_at (i := q) hg2 hg1 hl.symm (by omega) (fun j h1 h2 => (heq j (by omega) (by omega)).symm) (by omega)
          rw [valF_dg, valF_dg] at h
          unfold cmpF
          rw [if_neg (by omega), if_neg (by omega)]
        · -- else_t40
          refine JC.skip ?_
          refine JC.reg ?_
          refine Seq.p rfl Ev.move ?_
          refine Seq.p rfl Ev.sub ?_
          refine Seq.p rfl Ev.assign ?_
          refine Seq.nil ?_
          exact ⟨q, _, Part.refl _, ⟨Has.mk (by repeat (first | refine Off.upd ?_ rfl | exact Off.mix | refine Off.mix2 ?_ rfl | exact Off.refl)) (allLook_cons (by repeat (first | exact Look.here | apply Look.there (hne := rfl) | exact Look.const | apply Look.mix rfl | exact Look.arg0 | apply Look.args | exact Look.func)) allLook_nil), rfl, by omega, fun j h1 h2 => by
            rcases Nat.lt_or_ge q j with h3 | h3
            · exact heq j (by omega) h2
            · rw [show j = q by omega]; omega⟩, by omega⟩
    · -- else_t20
      obtain rfl : i = 0 := by omega
      refine JC.exit ?_ -- 0
      refine JC.rs ?_
      refine Seq.p rfl Ev.assign ?_
      refine Seq.nil ?_
      refine JC.ret ?_
      show retQ _ _ _ _ _ _ _ _
      refine ret1 (hp := Part.nil _) (hpost := ?_)
      have e : dg n = dg m := List.ext_getElem hl (fun j h1 h2 => by rw [← getElem!_pos _ j h1, ← getElem!_pos _ j h2]; exact heq j (Nat.zero_le _) h1)
      have e2 := dg_inj e
      subst e2
      unfold cmpF
      rw [if_neg (by omega), if_pos rfl]
end Go.Rx
/- The reference's big numbers, walked: plus, minus. -/
namespace Go.Rx
open Go Go.RowKit
set_option linter.unusedVariables false
set_option linter.unusedSimpArgs false
theorem dig_snoc {R : List Nat} {d : Nat} (h : digL R) (hd : d < 4294967296) : digL (R ++ [d]) := by
  intro x hx
  rcases List.mem_append.1 hx with hx | hx
  · exact h x hx
  · rw [List.mem_singleton.1 hx]; exact hd
theorem atD_in {a : List Nat} {i : Nat} (h : i < a.length) : atD a i = a[i]! := if_pos h
theorem atD_out {a : List Nat} {i : Nat} (h : ¬ i < a.length) : atD a i = 0 := if_neg h
set_option maxHeartbeats 2000000 in
set_option maxRecDepth 100000 in
theorem refPlus {w : World} {va vb : Value} {n m : Nat} (ha : RSl numEnc 1 w [] va (dg n)) (hb : RSl numEnc 1 w [] vb (dg m)) (hl1 : (dg n).length ≤ 1000) (hl2 : (dg m).length ≤ 1000) : Spec Go.Proofs.Try.prog 51 #[va, vb] w [] (BigPost (n + m)) := by
  have hg1 := atD_lt (dg_dig n)
  have hg2 := atD_lt (dg_dig m)
  refine Spec.enter (fn := Go.Proofs.Try.f51) (n := 57) [va, vb] Go.Proofs.Try.func51 (by kernel_rfl) rfl Go.Proofs.Try.ntmps51 Go.Proofs.Try.results51 rfl (Own.nil _) ?_
  refine JC.rs ?_
  refine Seq.p rfl Ev.assign ?_
  refine Seq.nil ?_
  refine JC.rs ?_
  refine Seq.buildSl (cs := []) (hsl := sl.bourseref01_big) (hz := z.uint32) (hcs := rfl) (k := ?_); intro b8
  refine Seq.re (fun w h => Upd.boxOwn h (n := 0) (size := 1) At.z rfl (by omega)) ?_
  refine Seq.p rfl Ev.assign ?_
  refine Seq.nil ?_
  refine JC.rs ?_
  refine Seq.p rfl Ev.assign ?_
  refine Seq.nil ?_
  refine JC.seq ?_
  refine JC.rs ?_
  refine Seq.p rfl Ev.assign ?_
  refine Seq.nil ?_
  refine JC.blk ?_
  refine JC.loop (α := Nat × Nat × List Nat) (I := fun q e1 H1 => ∃ A cp, Has [5, 6, 7, 9, 10, 11, 12, 13, 14, 15, 16, 17, 18, 19, 20, 21, 22, 23, 24, 25, 26, 27, 28, 29, 30, 31, 32, 33, 34, 35, 36, 37, 38, 39, 40, 41, 42, 43, 44, 45, 46, 47, 48, 49, 50, 51, 52, 53, 54] [(7, .int .i64 (q.1 : Int)), (6, .int .u64 (q.2.1 : Int)), (5, .slice A q.2.2.length cp)] _ e1 ∧ H1 = [bigL (.slice A q.2.2.length cp) q.2.2] ∧ q.2.2.length = q.1 ∧ digL q.2.2 ∧ q.2.1 ≤ 1 ∧ (q.1 ≤ (dg n).length + (dg m).length + 1 ∧ (q.2.1 = 0 ∨ q.1 ≤ (dg n).length + (dg m).length)) ∧ valF q.2.2 + q.2.1 * 4294967296 ^ q.1 = valF ((dg n).take q.1) + valF ((dg m).take q.1)) (μ := fun q => (dg n).length + (dg m).length + 1 - q.1) (0, 0, []) ⟨_, _, Has.mk Off.refl (allLook_cons (by repeat (first | exact Look.here | apply Look.there (hne := rfl) | exact Look.const | apply Look.mix rfl | exact Look.arg0 | apply Look.args | exact Look.func)) (allLook_cons (by repeat (first | exact Look.here | apply Look.there (hne := rfl) | exact Look.const | apply Look.mix rfl | exact Look.arg0 | apply Look.args | exact Look.func)) (allLook_cons (by repeat (first | exact Look.here | apply Look.there (hne := rfl) | exact Look.const | apply Look.mix rfl | exact Look.arg0 | apply Look.args | exact Look.func)) allLook_nil))), rfl, rfl, (fun d hd => (by cases hd)), by decide, ⟨Nat.zero_le _, .inl rfl⟩, by simp [valF]⟩ ?_
  rintro ⟨i, c, R⟩ _ _ ⟨A, cp, ⟨u, rfl⟩, rfl, hRl, hRd, hc1, hci, hinv⟩; dsimp only [setL]; dsimp only at hRl hRd hc1 hci hinv
  refine JC.seq ?_
  refine JC.rs ?_
  refine Seq.p rfl Ev.move ?_
  refine Seq.p rfl Ev.move ?_
  refine Seq.p rfl (Ev.lenSl sl.bourseref01_big (hr := ha.r)) ?_
  refine Seq.p rfl Ev.lt ?_
  refine Seq.p rfl Ev.move ?_
  refine Seq.orG (D := [13, 14, 15, 16, 17, 18]) (d := 13) (t := 18) (k := 5) (hn := fun h13 => ?_) (hx := ?_)
  · repeat (first | refine Seq.gn rfl rfl rfl rfl ?_ | refine Seq.gu rfl rfl rfl ?_)
    refine Seq.p rfl Ev.pickT ?_
    exact Seq.nil ⟨rfl, (by repeat (first | with_reducible exact Off.refl | refine Off.upd ?_ rfl | exact Off.mix | refine Off.mix2 ?_ rfl)), Look.here⟩
  apply Exists.intro
  refine ⟨fun h13 => ?_, fun u18 => ?_⟩
  · try simp only [decide_eq_true_eq, decide_eq_false_iff_not, Bool.and_eq_true, Bool.or_eq_true, Bool.not_eq_true', Bool.not_eq_false', Bool.or_eq_false_iff, Bool.and_eq_false_imp] at h13
    refine Seq.gy rfl rfl rfl ?_
    refine Seq.p rfl Ev.move ?_
    refine Seq.gy rfl rfl rfl ?_
    refine Seq.p rfl Ev.move ?_
    refine Seq.gy rfl rfl rfl ?_
    refine Seq.p rfl (Ev.lenSl sl.bourseref01_big (hr := hb.r)) ?_
    refine Seq.gy rfl rfl rfl ?_
    refine Seq.p rfl Ev.lt ?_
    refine Seq.p rfl Ev.pickF ?_
    exact Seq.nil ⟨rfl, (by repeat (first | with_reducible exact Off.refl | refine Off.upd ?_ rfl | exact Off.mix | refine Off.mix2 ?_ rfl)), Look.here⟩
  refine Seq.p rfl Ev.move ?_
  refine Seq.orG (D := [19, 20, 21, 22]) (d := 19) (t := 22) (k := 3) (hn := fun h19 => ?_) (hx := ?_)
  · repeat (first | refine Seq.gn rfl rfl rfl rfl ?_ | refine Seq.gu rfl rfl rfl ?_)
    refine Seq.p rfl Ev.pickT ?_
    exact Seq.nil ⟨rfl, (by repeat (first | with_reducible exact Off.refl | refine Off.upd ?_ rfl | exact Off.mix | refine Off.mix2 ?_ rfl)), Look.here⟩
  apply Exists.intro
  refine ⟨fun h19 => ?_, fun u22 => ?_⟩
  · try simp only [decide_eq_true_eq, decide_eq_false_iff_not, Bool.and_eq_true, Bool.or_eq_true, Bool.not_eq_true', Bool.not_eq_false', Bool.or_eq_false_iff, Bool.and_eq_false_imp] at h19
    refine Seq.gy rfl rfl rfl ?_
    refine Seq.p rfl Ev.move ?_
    refine Seq.gy rfl rfl rfl ?_
    refine Seq.p rfl Ev.gt ?_
    refine Seq.p rfl Ev.pickF ?_
    exact Seq.nil ⟨rfl, (by repeat (first | with_reducible exact Off.refl | refine Off.upd ?_ rfl | exact Off.mix | refine Off.mix2 ?_ rfl)), Look.here⟩
  refine Seq.nil ?_
  first | refine JC.c (ht := fun c22 => ?_) (hf := fun c22 => ?_) | refine JC.cb (ht := fun c22 => ?_) (hf := fun c22 => ?_)
  · -- then_t22
    simp only [Bool.or_eq_true, decide_eq_true_eq] at c22
    have hi2 : i ≤ (dg n).length + (dg m).length := by omega
    have hd1 := hg1 i
    have hd2 := hg2 i
    obtain ⟨T, hT⟩ : ∃ T, T = c + atD (dg n) i + atD (dg m) i := ⟨_, rfl⟩
    have hst := plus_step hRl hinv hT
    refine JC.skip ?_
    refine JC.seq ?_
    refine JC.blk ?_
    refine JC.seq ?_
    refine JC.rs ?_
    refine Seq.p rfl Ev.move ?_
    refine Seq.p rfl Ev.move ?_
    refine Seq.p rfl (Ev.lenSl sl.bourseref01_big (hr := ha.r)) ?_
    refine Seq.p rfl Ev.lt ?_
    refine Seq.nil ?_
    first | refine JC.c (ht := fun c28 => ?_) (hf := fun c28 => ?_) | refine JC.cb (ht := fun c28 => ?_) (hf := fun c28 => ?_)
    · -- then_t28
      have hat1 := atD_in (a := dg n) (i := i) (by omega)
      refine JC.reg ?_
      refine Seq.p rfl Ev.move ?_
      refine Seq.p rfl Ev.move ?_
      refine Seq.p rfl Ev.move ?_
      refine Seq.p rfl (Ev.iaN sl.bourseref01_big (hr := ha.r)) ?_
      refine Seq.p rfl (Ev.ldE1 sc.uint32 (hr := ha.r)) ?_
      refine Seq.p rfl (Ev.convU64 it.uint32 it.uint64) ?_
      refine Seq.p rfl Ev.addNU ?_
      refine Seq.p rfl Ev.assign ?_
      refine Seq.nil ?_
      refine JC.seq ?_
      refine JC.rs ?_
      refine Seq.p rfl Ev.move ?_
      refine Seq.p rfl Ev.move ?_
      refine Seq.p rfl (Ev.lenSl sl.bourseref01_big (hr := hb.r)) ?_
      refine Seq.p rfl Ev.lt ?_
      refine Seq.nil ?_
      first | refine JC.c (ht := fun c39 => ?_) (hf := fun c39 => ?_) | refine JC.cb (ht := fun c39 => ?_) (hf := fun c39 => ?_)
      · -- then_t39
        have hat2 := atD_in (a := dg m) (i := i) (by omega)
        refine JC.reg ?_
        refine Seq.p rfl Ev.move ?_
        refine Seq.p rfl Ev.move ?_
        refine Seq.p rfl Ev.move ?_
        refine Seq.p rfl (Ev.iaN sl.bourseref01_big (hr := hb.r)) ?_
        refine Seq.p rfl (Ev.ldE1 sc.uint32 (hr := hb.r)) ?_
        refine Seq.p rfl (Ev.convU64 it.uint32 it.uint64) ?_
        refine Seq.p rfl Ev.addNU ?_
        refine Seq.p rfl Ev.assign ?_
        refine Seq.nil ?_
        refine JC.rs ?_
        refine Seq.p rfl Ev.move ?_
        refine Seq.p rfl (Ev.moveN (b := T)) ?_
        refine Seq.p rfl (Ev.remNU (a := T) (b := 4294967296)) ?_
        refine Seq.p rfl (Ev.convU32 it.uint64 it.uint32) ?_
        refine Seq.buildSlN [_] (hsl := sl.bourseref01_big) (hz := z.uint32) (k := ?_); intro b51
        refine Seq.append (hsl := sl.bourseref01_big) (he := el.uint32) (hsrc := (fun w' hw => Src.box (news := numEnc (T % 4294967296)) sl.bourseref01_big At.z hw rfl (fun q u hu => hu))) (k := ?_); intro A52 c52
        refine Seq.p rfl Ev.assign ?_
        refine Seq.nil ?_
        refine JC.reg ?_
        refine Seq.p rfl (Ev.moveN (b := T)) ?_
        refine Seq.p rfl (Ev.shrNU (a := T) 4294967296) ?_
        refine Seq.p rfl Ev.assign ?_
        refine Seq.nil ?_
        refine JC.reg ?_
        refine Seq.p rfl Ev.move ?_
        refine Seq.p rfl (by first | exact Ev.inc | exact Ev.add) ?_
        refine Seq.p rfl Ev.assign ?_
        refine Seq.nil ?_
        refine ⟨(i + 1, T / 4294967296, R ++ [T % 4294967296]), _, Part.skip (Part.refl _), ⟨A52, c52, Has.mk (by repeat (first | refine Off.upd ?_ rfl | exact Off.mix | refine Off.mix2 ?_ rfl | exact Off.refl)) (allLook_cons (by repeat (first | exact Look.here | apply Look.there (hne := rfl) | exact Look.const | apply Look.mix rfl | exact Look.arg0 | apply Look.args | exact Look.func)) (allLook_cons (by repeat (first | exact Look.here | apply Look.there (hne := rfl) | exact Look.const | apply Look.mix rfl | exact Look.arg0 | apply Look.args | exact Look.func)) (allLook_cons (by show Look _ _ (Value.slice A52 (R ++ [T % 4294967296]).length c52); rw [List.length_append]; exact (by repeat (first | exact Look.here | apply Look.there (hne := rfl) | exact Look.const | apply Look.mix rfl | exact Look.arg0 | apply Look.args | exact Look.func))) allLook_nil))), ?_, by show (R ++ [T % 4294967296]).length = i + 1; rw [List.length_append, hRl]; rfl, dig_snoc hRd (Nat.mod_lt _ (by decide)), by show T / 4294967296 ≤ 1; omega, by show i + 1 ≤ _ ∧ (T / 4294967296 = 0 ∨ i + 1 ≤ _); omega, hst⟩, by show _ - (i + 1) < _ - i; omega⟩
        simp [numEnc]
      · -- else_t39
        have hat2 := atD_out (a := dg m) (i := i) (by omega)
        refine JC.skip ?_
        refine JC.rs ?_
        refine Seq.p rfl Ev.move ?_
        refine Seq.p rfl (Ev.moveN (b := T)) ?_
        refine Seq.p rfl (Ev.remNU (a := T) (b := 4294967296)) ?_
        refine Seq.p rfl (Ev.convU32 it.uint64 it.uint32) ?_
        refine Seq.buildSlN [_] (hsl := sl.bourseref01_big) (hz := z.uint32) (k := ?_); intro b51
        refine Seq.append (hsl := sl.bourseref01_big) (he := el.uint32) (hsrc := (fun w' hw => Src.box (news := numEnc (T % 4294967296)) sl.bourseref01_big At.z hw rfl (fun q u hu => hu))) (k := ?_); intro A52 c52
        refine Seq.p rfl Ev.assign ?_
        refine Seq.nil ?_
        refine JC.reg ?_
        refine Seq.p rfl (Ev.moveN (b := T)) ?_
        refine Seq.p rfl (Ev.shrNU (a := T) 4294967296) ?_
        refine Seq.p rfl Ev.assign ?_
        refine Seq.nil ?_
        refine JC.reg ?_
        refine Seq.p rfl Ev.move ?_
        refine Seq.p rfl (by first | exact Ev.inc | exact Ev.add) ?_
        refine Seq.p rfl Ev.assign ?_
        refine Seq.nil ?_
        refine ⟨(i + 1, T / 4294967296, R ++ [T % 4294967296]), _, Part.skip (Part.refl _), ⟨A52, c52, Has.mk (by repeat (first | refine Off.upd ?_ rfl | exact Off.mix | refine Off.mix2 ?_ rfl | exact Off.refl)) (allLook_cons (by repeat (first | exact Look.here | apply Look.there (hne := rfl) | exact Look.const | apply Look.mix rfl | exact Look.arg0 | apply Look.args | exact Look.func)) (allLook_cons (by repeat (first | exact Look.here | apply Look.there (hne := rfl) | exact Look.const | apply Look.mix rfl | exact Look.arg0 | apply Look.args | exact Look.func)) (allLook_cons (by show Look _ _ (Value.slice A52 (R ++ [T % 4294967296]).length c52); rw [List.length_append]; exact (by repeat (first | exact Look.here | apply Look.there (hne := rfl) | exact Look.const | apply Look.mix rfl | exact Look.arg0 | apply Look.args | exact Look.func))) allLook_nil))), ?_, by show (R ++ [T % 4294967296]).length = i + 1; rw [List.length_append, hRl]; rfl, dig_snoc hRd (Nat.mod_lt _ (by decide)), by show T / 4294967296 ≤ 1; omega, by show i + 1 ≤ _ ∧ (T / 4294967296 = 0 ∨ i + 1 ≤ _); omega, hst⟩, by show _ - (i + 1) < _ - i; omega⟩
        simp [numEnc]
    · -- else_t28
      have hat1 := atD_out (a := dg n) (i := i) (by omega)
      refine JC.skip ?_
      refine JC.seq ?_
      refine JC.rs ?_
      refine Seq.p rfl Ev.move ?_
      refine Seq.p rfl Ev.move ?_
      refine Seq.p rfl (Ev.lenSl sl.bourseref01_big (hr := hb.r)) ?_
      refine Seq.p rfl Ev.lt ?_
      refine Seq.nil ?_
      first | refine JC.c (ht := fun c39 => ?_) (hf := fun c39 => ?_) | refine JC.cb (ht := fun c39 => ?_) (hf := fun c39 => ?_)
      · -- then_t39
        have hat2 := atD_in (a := dg m) (i := i) (by omega)
        refine JC.reg ?_
        refine Seq.p rfl Ev.move ?_
        refine Seq.p rfl Ev.move ?_
        refine Seq.p rfl Ev.move ?_
        refine Seq.p rfl (Ev.iaN sl.bourseref01_big (hr := hb.r)) ?_
        refine Seq.p rfl (Ev.ldE1 sc.uint32 (hr := hb.r)) ?_
        refine Seq.p rfl (Ev.convU64 it.uint32 it.uint64) ?_
        refine Seq.p rfl Ev.addNU ?_
        refine Seq.p rfl Ev.assign ?_
        refine Seq.nil ?_
        refine JC.rs ?_
        refine Seq.p rfl Ev.move ?_
        refine Seq.p rfl (Ev.moveN (b := T)) ?_
        refine Seq.p rfl (Ev.remNU (a := T) (b := 4294967296)) ?_
        refine Seq.p rfl (Ev.convU32 it.uint64 it.uint32) ?_
        refine Seq.buildSlN [_] (hsl := sl.bourseref01_big) (hz := z.uint32) (k := ?_); intro b51
        refine Seq.append (hsl := sl.bourseref01_big) (he := el.uint32) (hsrc := (fun w' hw => Src.box (news := numEnc (T % 4294967296)) sl.bourseref01_big At.z hw rfl (fun q u hu => hu))) (k := ?_); intro A52 c52
        refine Seq.p rfl Ev.assign ?_
        refine Seq.nil ?_
        refine JC.reg ?_
        refine Seq.p rfl (Ev.moveN (b := T)) ?_
        refine Seq.p rfl (Ev.shrNU (a := T) 4294967296) ?_
        refine Seq.p rfl Ev.assign ?_
        refine Seq.nil ?_
        refine JC.reg ?_
        refine Seq.p rfl Ev.move ?_
        refine Seq.p rfl (by first | exact Ev.inc | exact Ev.add) ?_
        refine Seq.p rfl Ev.assign ?_
        refine Seq.nil ?_
        refine ⟨(i + 1, T / 4294967296, R ++ [T % 4294967296]), _, Part.skip (Part.refl _), ⟨A52, c52, Has.mk (by repeat (first | refine Off.upd ?_ rfl | exact Off.mix | refine Off.mix2 ?_ rfl | exact Off.refl)) (allLook_cons (by repeat (first | exact Look.here | apply Look.there (hne := rfl) | exact Look.const | apply Look.mix rfl | exact Look.arg0 | apply Look.args | exact Look.func)) (allLook_cons (by repeat (first | exact Look.here | apply Look.there (hne := rfl) | exact Look.const | apply Look.mix rfl | exact Look.arg0 | apply Look.args | exact Look.func)) (allLook_cons (by show Look _ _ (Value.slice A52 (R ++ [T % 4294967296]).length c52); rw [List.length_append]; exact (by repeat (first | exact Look.here | apply Look.there (hne := rfl) | exact Look.const | apply Look.mix rfl | exact Look.arg0 | apply Look.args | exact Look.func))) allLook_nil))), ?_, by show (R ++ [T % 4294967296]).length = i + 1; rw [List.length_append, hRl]; rfl, dig_snoc hRd (Nat.mod_lt _ (by decide)), by show T / 4294967296 ≤ 1; omega, by show i + 1 ≤ _ ∧ (T / 4294967296 = 0 ∨ i + 1 ≤ _); omega, hst⟩, by show _ - (i + 1) < _ - i; omega⟩
        simp [numEnc]
      · -- else_t39
        have hat2 := atD_out (a := dg m) (i := i) (by omega)
        refine JC.skip ?_
        refine JC.rs ?_
        refine Seq.p rfl Ev.move ?_
        refine Seq.p rfl (Ev.moveN (b := T)) ?_
        refine Seq.p rfl (Ev.remNU (a := T) (b := 4294967296)) ?_
        refine Seq.p rfl (Ev.convU32 it.uint64 it.uint32) ?_
        refine Seq.buildSlN [_] (hsl := sl.bourseref01_big) (hz := z.uint32) (k := ?_); intro b51
        refine Seq.append (hsl := sl.bourseref01_big) (he := el.uint32) (hsrc := (fun w' hw => Src.box (news := numEnc (T % 4294967296)) sl.bourseref01_big At.z hw rfl (fun q u hu => hu))) (k := ?_); intro A52 c52
        refine Seq.p rfl Ev.assign ?_
        refine Seq.nil ?_
        refine JC.reg ?_
        refine Seq.p rfl (Ev.moveN (b := T)) ?_
        refine Seq.p rfl (Ev.shrNU (a := T) 4294967296) ?_
        refine Seq.p rfl Ev.assign ?_
        refine Seq.nil ?_
        refine JC.reg ?_
        refine Seq.p rfl Ev.move ?_
        refine Seq.p rfl (by first | exact Ev.inc | exact Ev.add) ?_
        refine Seq.p rfl Ev.assign ?_
        refine Seq.nil ?_
        refine ⟨(i + 1, T / 4294967296, R ++ [T % 4294967296]), _, Part.skip (Part.refl _), ⟨A52, c52, Has.mk (by repeat (first | refine Off.upd ?_ rfl | exact Off.mix | refine Off.mix2 ?_ rfl | exact Off.refl)) (allLook_cons (by repeat (first | exact Look.here | apply Look.there (hne := rfl) | exact Look.const | apply Look.mix rfl | exact Look.arg0 | apply Look.args | exact Look.func)) (allLook_cons (by repeat (first | exact Look.here | apply Look.there (hne := rfl) | exact Look.const | apply Look.mix rfl | exact Look.arg0 | apply Look.args | exact Look.func)) (allLook_cons (by show Look _ _ (Value.slice A52 (R ++ [T % 4294967296]).length c52); rw [List.length_append]; exact (by repeat (first | exact Look.here | apply Look.there (hne := rfl) | exact Look.const | apply Look.mix rfl | exact Look.arg0 | apply Look.args | exact Look.func))) allLook_nil))), ?_, by show (R ++ [T % 4294967296]).length = i + 1; rw [List.length_append, hRl]; rfl, dig_snoc hRd (Nat.mod_lt _ (by decide)), by show T / 4294967296 ≤ 1; omega, by show i + 1 ≤ _ ∧ (T / 4294967296 = 0 ∨ i + 1 ≤ _); omega, hst⟩, by show _ - (i + 1) < _ - i; omega⟩
        simp [numEnc]
  · -- else_t22
    simp only [Bool.or_eq_false_iff, decide_eq_false_iff_not] at c22
    obtain rfl : c = 0 := by omega
    have hv : valF R = n + m := by
      rw [List.take_of_length_le (by omega), List.take_of_length_le (by omega), valF_dg, valF_dg] at hinv
      omega
    refine JC.exit ?_ -- 0
    refine JC.rs ?_
    refine Seq.p rfl Ev.move ?_
    refine Seq.call rfl (fun w' hw => refTrimmed (D := R) (hw.part (Part.here (Part.nil _))).own hRd (by omega)) (Gs := [_]) (F := []) (by exact List.Perm.refl _) ?_
    rintro u H' hP
    rw [hv] at hP
    obtain ⟨A', c', rfl, rfl⟩ := hP
    simp only [List.cons_append, List.nil_append]
    refine Seq.p rfl Ev.assign ?_
    refine Seq.nil ?_
    refine JC.ret ?_
    show retQ _ _ _ _ _ _ _ _
    refine ret1 (hp := Part.refl _) (hpost := ?_)
    exact ⟨A', c', rfl, rfl⟩
set_option maxHeartbeats 2000000 in
set_option maxRecDepth 100000 in
theorem refMinus {w : World} {va vb : Value} {n m : Nat} (ha : RSl numEnc 1 w [] va (dg n)) (hb : RSl numEnc 1 w [] vb (dg m)) (hl1 : (dg n).length ≤ 1000) (hmn : m ≤ n) : Spec Go.Proofs.Try.prog 53 #[va, vb] w [] (BigPost (n - m)) := by
  have hg1 := atD_lt (dg_dig n)
  have hg2 := atD_lt (dg_dig m)
  have hl2 : (dg m).length ≤ (dg n).length := by
    rcases Nat.lt_or_ge (dg n).length (dg m).length with h | h
    · have := dg_cmp_len h; omega
    · exact h
  refine Spec.enter (fn := Go.Proofs.Try.f53) (n := 46) [va, vb] Go.Proofs.Try.func53 (by kernel_rfl) rfl Go.Proofs.Try.ntmps53 Go.Proofs.Try.results53 rfl (Own.nil _) ?_
  refine JC.rs ?_
  refine Seq.p rfl Ev.assign ?_
  refine Seq.nil ?_
  refine JC.rs ?_
  refine Seq.buildSl (cs := []) (hsl := sl.bourseref01_big) (hz := z.uint32) (hcs := rfl) (k := ?_); intro b9
  refine Seq.re (fun w h => Upd.boxOwn h (n := 0) (size := 1) At.z rfl (by omega)) ?_
  refine Seq.p rfl Ev.assign ?_
  refine Seq.nil ?_
  refine JC.rs ?_
  refine Seq.p rfl Ev.assign ?_
  refine Seq.nil ?_
  refine JC.seq ?_
  refine JC.rs ?_
  refine Seq.p rfl Ev.assign ?_
  refine Seq.nil ?_
  refine JC.blk ?_
  refine JC.loop (α := Nat × Nat × List Nat) (I := fun q e1 H1 => ∃ A cp, Has [5, 6, 7, 8, 10, 11, 12, 13, 14, 15, 16, 17, 18, 19, 20, 21, 22, 23, 24, 25, 26, 27, 28, 29, 30, 31, 32, 33, 34, 35, 36, 37, 38, 39, 40, 41, 42, 43] [(7, .int .i64 (q.1 : Int)), (6, .int .u64 (q.2.1 : Int)), (5, .slice A q.2.2.length cp)] _ e1 ∧ H1 = [bigL (.slice A q.2.2.length cp) q.2.2] ∧ q.2.2.length = q.1 ∧ digL q.2.2 ∧ q.2.1 ≤ 1 ∧ q.1 ≤ (dg n).length ∧ valF q.2.2 + valF ((dg m).take q.1) = valF ((dg n).take q.1) + q.2.1 * 4294967296 ^ q.1) (μ := fun q => (dg n).length - q.1) (0, 0, []) ⟨_, _, Has.mk Off.refl (allLook_cons (by repeat (first | exact Look.here | apply Look.there (hne := rfl) | exact Look.const | apply Look.mix rfl | exact Look.arg0 | apply Look.args | exact Look.func)) (allLook_cons (by repeat (first | exact Look.here | apply Look.there (hne := rfl) | exact Look.const | apply Look.mix rfl | exact Look.arg0 | apply Look.args | exact Look.func)) (allLook_cons (by repeat (first | exact Look.here | apply Look.there (hne := rfl) | exact Look.const | apply Look.mix rfl | exact Look.arg0 | apply Look.args | exact Look.func)) allLook_nil))), rfl, rfl, (fun d hd => (by cases hd)), by decide, Nat.zero_le _, by simp [valF]⟩ ?_
  rintro ⟨i, c, R⟩ _ _ ⟨A, cp, ⟨u, rfl⟩, rfl, hRl, hRd, hc1, hci, hinv⟩; dsimp only [setL]; dsimp only at hRl hRd hc1 hci hinv
  refine JC.seq ?_
  refine JC.rs ?_
  refine Seq.p rfl Ev.move ?_
  refine Seq.p rfl Ev.move ?_
  refine Seq.p rfl (Ev.lenSl sl.bourseref01_big (hr := ha.r)) ?_
  refine Seq.p rfl Ev.lt ?_
  refine Seq.nil ?_
  first | refine JC.c (ht := fun c13 => ?_) (hf := fun c13 => ?_) | refine JC.cb (ht := fun c13 => ?_) (hf := fun c13 => ?_)
  · -- then_t13
    have hi2 : i < (dg n).length := by omega
    have hd1 := hg1 i
    have hd2 := hg2 i
    have hat1 := atD_in hi2
    obtain ⟨T, hT⟩ : ∃ T, T = atD (dg n) i + 4294967296 - c - atD (dg m) i := ⟨_, rfl⟩
    have hst := minus_step (v := T) (w' := 1 - T / 4294967296) hRl hinv (by omega) (by omega)
    refine JC.skip ?_
    refine JC.seq ?_
    refine JC.blk ?_
    refine JC.rs ?_
    refine Seq.p rfl Ev.move ?_
    refine Seq.p rfl Ev.move ?_
    refine Seq.p rfl (Ev.iaN sl.bourseref01_big (hr := ha.r)) ?_
    refine Seq.p rfl (Ev.ldE1 sc.uint32 (hr := ha.r)) ?_
    refine Seq.p rfl (Ev.convU64 it.uint32 it.uint64) ?_
    refine Seq.p rfl (Ev.addNU (b := 4294967296)) ?_
    refine Seq.p rfl Ev.move ?_
    refine Seq.p rfl Ev.subNU ?_
    refine Seq.p rfl Ev.assign ?_
    refine Seq.nil ?_
    refine JC.seq ?_
    refine JC.rs ?_
    refine Seq.p rfl Ev.move ?_
    refine Seq.p rfl Ev.move ?_
    refine Seq.p rfl (Ev.lenSl sl.bourseref01_big (hr := hb.r)) ?_
    refine Seq.p rfl Ev.lt ?_
    refine Seq.nil ?_
    first | refine JC.c (ht := fun c27 => ?_) (hf := fun c27 => ?_) | refine JC.cb (ht := fun c27 => ?_) (hf := fun c27 => ?_)
    · -- then_t27
      have hat2 := atD_in (a := dg m) (i := i) (by omega)
      refine JC.reg ?_
      refine Seq.p rfl Ev.move ?_
      refine Seq.p rfl Ev.move ?_
      refine Seq.p rfl Ev.move ?_
      refine Seq.p rfl (Ev.iaN sl.bourseref01_big (hr := hb.r)) ?_
      refine Seq.p rfl (Ev.ldE1 sc.uint32 (hr := hb.r)) ?_
      refine Seq.p rfl (Ev.convU64 it.uint32 it.uint64) ?_
      refine Seq.p rfl Ev.subNU ?_
      refine Seq.p rfl Ev.assign ?_
      refine Seq.nil ?_
      refine JC.rs ?_
      refine Seq.p rfl Ev.move ?_
      refine Seq.p rfl (Ev.moveN (b := T)) ?_
      refine Seq.p rfl (Ev.remNU (a := T) (b := 4294967296)) ?_
      refine Seq.p rfl (Ev.convU32 it.uint64 it.uint32) ?_
      refine Seq.buildSlN [_] (hsl := sl.bourseref01_big) (hz := z.uint32) (k := ?_); intro b39
      refine Seq.append (hsl := sl.bourseref01_big) (he := el.uint32) (hsrc := (fun w' hw => Src.box (news := numEnc (T % 4294967296)) sl.bourseref01_big At.z hw rfl (fun q u hu => hu))) (k := ?_); intro A40 c40
      refine Seq.p rfl Ev.assign ?_
      refine Seq.nil ?_
      refine JC.reg ?_
      refine Seq.p rfl (Ev.moveN (b := T)) ?_
      refine Seq.p rfl (Ev.shrNU (a := T) 4294967296) ?_
      refine Seq.p rfl (Ev.subNU (a := 1) (b := T / 4294967296)) ?_
      refine Seq.p rfl Ev.assign ?_
      refine Seq.nil ?_
      refine JC.reg ?_
      refine Seq.p rfl Ev.move ?_
      refine Seq.p rfl (by first | exact Ev.inc | exact Ev.add) ?_
      refine Seq.p rfl Ev.assign ?_
      refine Seq.nil ?_
      refine ⟨(i + 1, 1 - T / 4294967296, R ++ [T % 4294967296]), _, Part.skip (Part.refl _), ⟨A40, c40, Has.mk (by repeat (first | refine Off.upd ?_ rfl | exact Off.mix | refine Off.mix2 ?_ rfl | exact Off.refl)) (allLook_cons (by repeat (first | exact Look.here | apply Look.there (hne := rfl) | exact Look.const | apply Look.mix rfl | exact Look.arg0 | apply Look.args | exact Look.func)) (allLook_cons (by repeat (first | exact Look.here | apply Look.there (hne := rfl) | exact Look.const | apply Look.mix rfl | exact Look.arg0 | apply Look.args | exact Look.func)) (allLook_cons (by show Look _ _ (Value.slice A40 (R ++ [T % 4294967296]).length c40); rw [List.length_append]; exact (by repeat (first | exact Look.here | apply Look.there (hne := rfl) | exact Look.const | apply Look.mix rfl | exact Look.arg0 | apply Look.args | exact Look.func))) allLook_nil))), ?_, by show (R ++ [T % 4294967296]).length = i + 1; rw [List.length_append, hRl]; rfl, dig_snoc hRd (Nat.mod_lt _ (by decide)), by show 1 - T / 4294967296 ≤ 1; omega, by show i + 1 ≤ _; omega, hst⟩, by show _ - (i + 1) < _ - i; omega⟩
      simp [numEnc]
    · -- else_t27
      have hat2 := atD_out (a := dg m) (i := i) (by omega)
      refine JC.skip ?_
      refine JC.rs ?_
      refine Seq.p rfl Ev.move ?_
      refine Seq.p rfl (Ev.moveN (b := T)) ?_
      refine Seq.p rfl (Ev.remNU (a := T) (b := 4294967296)) ?_
      refine Seq.p rfl (Ev.convU32 it.uint64 it.uint32) ?_
      refine Seq.buildSlN [_] (hsl := sl.bourseref01_big) (hz := z.uint32) (k := ?_); intro b39
      refine Seq.append (hsl := sl.bourseref01_big) (he := el.uint32) (hsrc := (fun w' hw => Src.box (news := numEnc (T % 4294967296)) sl.bourseref01_big At.z hw rfl (fun q u hu => hu))) (k := ?_); intro A40 c40
      refine Seq.p rfl Ev.assign ?_
      refine Seq.nil ?_
      refine JC.reg ?_
      refine Seq.p rfl (Ev.moveN (b := T)) ?_
      refine Seq.p rfl (Ev.shrNU (a := T) 4294967296) ?_
      refine Seq.p rfl (Ev.subNU (a := 1) (b := T / 4294967296)) ?_
      refine Seq.p rfl Ev.assign ?_
      refine Seq.nil ?_
      refine JC.reg ?_
      refine Seq.p rfl Ev.move ?_
      refine Seq.p rfl (by first | exact Ev.inc | exact Ev.add) ?_
      refine Seq.p rfl Ev.assign ?_
      refine Seq.nil ?_
      refine ⟨(i + 1, 1 - T / 4294967296, R ++ [T % 4294967296]), _, Part.skip (Part.refl _), ⟨A40, c40, Has.mk (by repeat (first | refine Off.upd ?_ rfl | exact Off.mix | refine Off.mix2 ?_ rfl | exact Off.refl)) (allLook_cons (by repeat (first | exact Look.here | apply Look.there (hne := rfl) | exact Look.const | apply Look.mix rfl | exact Look.arg0 | apply Look.args | exact Look.func)) (allLook_cons (by repeat (first | exact Look.here | apply Look.there (hne := rfl) | exact Look.const | apply Look.mix rfl | exact Look.arg0 | apply Look.args | exact Look.func)) (allLook_cons (by show Look _ _ (Value.slice A40 (R ++ [T % 4294967296]).length c40); rw [List.length_append]; exact (by repeat (first | exact Look.here | apply Look.there (hne := rfl) | exact Look.const | apply Look.mix rfl | exact Look.arg0 | apply Look.args | exact Look.func))) allLook_nil))), ?_, by show (R ++ [T % 4294967296]).length = i + 1; rw [List.length_append, hRl]; rfl, dig_snoc hRd (Nat.mod_lt _ (by decide)), by show 1 - T / 4294967296 ≤ 1; omega, by show i + 1 ≤ _; omega, hst⟩, by show _ - (i + 1) < _ - i; omega⟩
      simp [numEnc]
  · -- else_t13
    obtain rfl : i = (dg n).length := by omega
    have hv : valF R = n - m := by
      rw [List.take_of_length_le (by omega), List.take_of_length_le (by omega), valF_dg, valF_dg] at hinv
      have hlt := valF_lt hRd
      rw [hRl] at hlt
      rcases (by omega : c = 0 ∨ c = 1) with rfl | rfl
      · omega
      · omega
    refine JC.exit ?_ -- 0
    refine JC.rs ?_
    refine Seq.p rfl Ev.move ?_
    refine Seq.call rfl (fun w' hw => refTrimmed (D := R) (hw.part (Part.here (Part.nil _))).own hRd (by omega)) (Gs := [_]) (F := []) (by exact List.Perm.refl _) ?_
    rintro u H' hP
    rw [hv] at hP
    obtain ⟨A', c', rfl, rfl⟩ := hP
    simp only [List.cons_append, List.nil_append]
    refine Seq.p rfl Ev.assign ?_
    refine Seq.nil ?_
    refine JC.ret ?_
    show retQ _ _ _ _ _ _ _ _
    refine ret1 (hp := Part.refl _) (hpost := ?_)
    exact ⟨A', c', rfl, rfl⟩
end Go.Rx
/- The reference's big numbers, walked: times, most, amount, sums of money, turnover. -/
namespace Go.Rx
open Go Go.RowKit
set_option linter.unusedVariables false
set_option linter.unusedSimpArgs false
theorem dig_set {r : List Nat} {k d : Nat} (h : digL r) (hd : d < 4294967296) : digL (r.set k d) := by
  intro x hx
  rcases List.mem_or_eq_of_mem_set hx with hx | rfl
  · exact h x hx
  · exact hd
theorem get_set {r : List Nat} {k j d : Nat} (hj : j < r.length) (hk : j ≠ k) : (r.set k d)[j]! = r[j]! := by
  rw [getElem!_pos _ j (by rw [List.length_set]; exact hj), getElem!_pos r j hj]
  exact List.getElem_set_ne (Ne.symm hk) _
theorem rep_enc (c : Nat) : List.replicate c (Value.int .u32 0) = (List.replicate c 0).flatMap numEnc := by
  induction c with
  | zero => rfl
  | succ c ih => rw [List.replicate_succ, List.replicate_succ, List.flatMap_cons, ← ih]; rfl
theorem rep_zero (c : Nat) : valF (List.replicate c 0) = 0 := by
  induction c with
  | zero => rfl
  | succ c ih => rw [List.replicate_succ]; simp [valF, ih]
theorem rep_get {c j : Nat} (h : j < c) : (List.replicate c 0)[j]! = 0 := by
  rw [getElem!_pos _ j (by rw [List.length_replicate]; exact h), List.getElem_replicate]
theorem mul_room {x y r c : Nat} (hx : x < 4294967296) (hy : y < 4294967296) (hr : r < 4294967296) (hc : c < 4294967296) : x * y + r + c < 18446744073709551616 := by
  have h := Nat.mul_le_mul (show x ≤ 4294967295 by omega) (show y ≤ 4294967295 by omega)
  omega
set_option maxHeartbeats 4000000 in
set_option maxRecDepth 100000 in
theorem refTimes {w : World} {va vb : Value} {n m : Nat} (ha : RSl numEnc 1 w [] va (dg n)) (hb : RSl numEnc 1 w [] vb (dg m)) (hl1 : (dg n).length ≤ 1000) (hl2 : (dg m).length ≤ 1000) : Spec Go.Proofs.Try.prog 54 #[va, vb] w [] (BigPost (n * m)) := by
  have hg1 := dg_dig n
  have hg2 := dg_dig m
  have hvn := valF_dg n
  have hvm := valF_dg m
  obtain ⟨a, hae⟩ : ∃ a, a = dg n := ⟨_, rfl⟩
  obtain ⟨b, hbe⟩ : ∃ b, b = dg m := ⟨_, rfl⟩
  rw [← hae] at ha hl1 hg1 hvn
  rw [← hbe] at hb hl2 hg2 hvm
  have hda : ∀ i, i < a.length → a[i]! < 4294967296 := fun i h => by rw [getElem!_pos a i h]; exact hg1 _ (List.getElem_mem h)
  have hdb : ∀ i, i < b.length → b[i]! < 4294967296 := fun i h => by rw [getElem!_pos b i h]; exact hg2 _ (List.getElem_mem h)
  refine Spec.enter (fn := Go.Proofs.Try.f54) (n := 69) [va, vb] Go.Proofs.Try.func54 (by kernel_rfl) rfl Go.Proofs.Try.ntmps54 Go.Proofs.Try.results54 rfl (Own.nil _) ?_
  refine JC.rs ?_
  refine Seq.p rfl Ev.assign ?_
  refine Seq.nil ?_
  refine JC.rs ?_
  refine Seq.p rfl Ev.move ?_
  refine Seq.p rfl (Ev.lenSl sl.bourseref01_big (hr := ha.r)) ?_
  refine Seq.p rfl Ev.move ?_
  refine Seq.p rfl (Ev.lenSl sl.bourseref01_big (hr := hb.r)) ?_
  refine Seq.p rfl (Ev.addN (m := a.length) (c := b.length)) ?_
  refine Seq.mkSlZ (c := a.length + b.length) (hsl := sl.bourseref01_big) (he := el.uint32) (hz0 := z.uint32) (hm := by simp only [maxLen]; omega) (kk := ?_); intro b15
  refine Seq.p rfl Ev.assign ?_
  refine Seq.nil ?_
  refine JC.seq ?_
  refine JC.rs ?_
  refine Seq.p rfl Ev.assign ?_
  refine Seq.nil ?_
  refine JC.blk ?_
  rw [rep_enc]
  obtain ⟨SV, hSV⟩ : ∃ SV, SV = Value.slice (some ⟨b15, 0, none⟩) (a.length + b.length) (a.length + b.length) := ⟨_, rfl⟩
  rw [← hSV]
  refine JC.loop (α := Nat × List Nat) (I := fun q e1 H1 => Has [6, 7, 8, 9, 16, 17, 18, 19, 20, 21, 22, 23, 24, 25, 26, 27, 28, 29, 30, 31, 32, 33, 34, 35, 36, 37, 38, 39, 40, 41, 42, 43, 44, 45, 46, 47, 48, 49, 50, 51, 52, 53, 54, 55, 56, 57, 58, 59, 60, 61, 62, 63, 64, 65, 66] [(6, .int .i64 (q.1 : Int))] _ e1 ∧ H1 = [.own 42 1 SV q.2.length (q.2.flatMap numEnc)] ∧ q.2.length = a.length + b.length ∧ digL q.2 ∧ q.1 ≤ a.length ∧ (∀ k, q.1 + b.length ≤ k → k < q.2.length → q.2[k]! = 0) ∧ valF q.2 = valF (a.take q.1) * m) (μ := fun q => a.length - q.1) (0, List.replicate (a.length + b.length) 0) ⟨Has.mk Off.refl (allLook_cons (by repeat (first | exact Look.here | apply Look.there (hne := rfl) | exact Look.const | apply Look.mix rfl | exact Look.arg0 | apply Look.args | exact Look.func)) allLook_nil), (by show [_] = [_]; rw [List.length_replicate]), List.length_replicate, fun d hd => (by rw [(List.mem_replicate.1 hd).2]; decide), Nat.zero_le _, fun k h1 h2 => rep_get (by rw [List.length_replicate] at h2; exact h2), by show valF (List.replicate _ 0) = _; rw [rep_zero]; simp [valF]⟩ ?_
  rintro ⟨i, r⟩ _ _ ⟨⟨u, rfl⟩, rfl, hrl, hrd, hi, hz, hinv⟩; dsimp only [setL]; dsimp only at hrl hrd hi hz hinv
  refine JC.seq ?_
  refine JC.rs ?_
  refine Seq.p rfl Ev.move ?_
  refine Seq.p rfl Ev.move ?_
  refine Seq.p rfl (Ev.lenSl sl.bourseref01_big (hr := ha.r)) ?_
  refine Seq.p rfl Ev.lt ?_
  refine Seq.nil ?_
  first | refine JC.c (ht := fun c19 => ?_) (hf := fun c19 => ?_) | refine JC.cb (ht := fun c19 => ?_) (hf := fun c19 => ?_)
  · -- then_t19
    have hi2 : i < a.length := by omega
    have hxi := hda i hi2
    refine JC.skip ?_
    refine JC.seq ?_
    refine JC.blk ?_
    refine JC.rs ?_
    refine Seq.p rfl Ev.assign ?_
    refine Seq.nil ?_
    refine JC.seq ?_
    refine JC.rs ?_
    refine Seq.p rfl Ev.assign ?_
    refine Seq.nil ?_
    refine JC.blk ?_
    refine JC.loop (α := Nat × Nat × List Nat) (I := fun q e1 H1 => Has [7, 8, 9, 22, 23, 24, 25, 26, 27, 28, 29, 30, 31, 32, 33, 34, 35, 36, 37, 38, 39, 40, 41, 42, 43, 44, 45, 46, 47, 48, 49, 50, 51, 52, 53, 54, 55, 56, 57, 58] [(8, .int .i64 (q.1 : Int)), (7, .int .u64 (q.2.1 : Int))] _ e1 ∧ H1 = [.own 42 1 SV q.2.2.length (q.2.2.flatMap numEnc)] ∧ q.2.2.length = a.length + b.length ∧ digL q.2.2 ∧ q.1 ≤ b.length ∧ q.2.1 < 4294967296 ∧ (∀ k, i + b.length ≤ k → k < q.2.2.length → q.2.2[k]! = 0) ∧ valF q.2.2 + q.2.1 * 4294967296 ^ (i + q.1) = valF (a.take i) * m + a[i]! * 4294967296 ^ i * valF (b.take q.1)) (μ := fun q => b.length - q.1) (0, 0, r) ⟨Has.mk Off.refl (allLook_cons (by repeat (first | exact Look.here | apply Look.there (hne := rfl) | exact Look.const | apply Look.mix rfl | exact Look.arg0 | apply Look.args | exact Look.func)) (allLook_cons (by repeat (first | exact Look.here | apply Look.there (hne := rfl) | exact Look.const | apply Look.mix rfl | exact Look.arg0 | apply Look.args | exact Look.func)) allLook_nil)), rfl, hrl, hrd, Nat.zero_le _, (by show 0 < 4294967296; decide), hz, by simp [valF, hinv]⟩ ?_
    rintro ⟨j, c, s⟩ _ _ ⟨⟨u2, rfl⟩, rfl, hsl, hsd, hj, hcl, hz2, hinv2⟩; dsimp only [setL]; dsimp only at hsl hsd hj hcl hz2 hinv2
    refine JC.seq ?_
    refine JC.rs ?_
    refine Seq.p rfl Ev.move ?_
    refine Seq.p rfl Ev.move ?_
    refine Seq.p rfl (Ev.lenSl sl.bourseref01_big (hr := hb.r)) ?_
    refine Seq.p rfl Ev.lt ?_
    refine Seq.nil ?_
    first | refine JC.c (ht := fun c25 => ?_) (hf := fun c25 => ?_) | refine JC.cb (ht := fun c25 => ?_) (hf := fun c25 => ?_)
    · -- then_t25
      have hj2 : j < b.length := by omega
      have hyj := hdb j hj2
      have hsk : s[i + j]! < 4294967296 := by rw [getElem!_pos s (i + j) (by omega)]; exact hsd _ (List.getElem_mem _)
      have hroom := mul_room hxi hyj hsk hcl
      obtain ⟨T, hT⟩ : ∃ T, T = a[i]! * b[j]! + s[i + j]! + c := ⟨_, rfl⟩
      have hst := times_step (by omega) hj2 hinv2 hT
      rw [← hT] at hroom
      refine JC.skip ?_
      refine JC.seq ?_
      refine JC.blk ?_
      refine JC.qs mixed (by kernel_rfl) ?_
      refine Qui.p rfl Ev.move ?_
      refine Qui.p rfl Ev.move ?_
      refine Qui.p rfl (Ev.iaN sl.bourseref01_big (hr := ha.r)) ?_
      refine Qui.p rfl (Ev.ldE1 sc.uint32 (hr := ha.r)) ?_
      refine Qui.p rfl (Ev.convU64 it.uint32 it.uint64) ?_
      refine Qui.p rfl Ev.move ?_
      refine Qui.p rfl Ev.move ?_
      refine Qui.p rfl (Ev.iaN sl.bourseref01_big (hr := hb.r)) ?_
      refine Qui.p rfl (Ev.ldE1 sc.uint32 (hr := hb.r)) ?_
      refine Qui.p rfl (Ev.convU64 it.uint32 it.uint64) ?_
      refine Qui.p rfl (Ev.mulNU (a := a[i]!) (b := b[j]!)) ?_
      refine Qui.p rfl Ev.move ?_
      refine Qui.p rfl Ev.move ?_
      refine Qui.p rfl Ev.move ?_
      refine Qui.p rfl (Ev.addN (m := i) (c := j)) ?_
      refine Qui.p rfl (Ev.iaN sl.bourseref01_big (i := i + j) (hr := RAt.own (enc := numEnc) (v := SV) (xs := s) (hs := by omega))) ?_
      refine Qui.p rfl (Ev.ldE1 sc.uint32 (i := i + j) (hr := RAt.own (enc := numEnc) (v := SV) (xs := s) (hs := by omega))) ?_
      refine Qui.p rfl (Ev.convU64 it.uint32 it.uint64) ?_
      refine Qui.p rfl Ev.addNU ?_
      refine Qui.p rfl Ev.move ?_
      refine Qui.p rfl (Ev.as (v := .int .u64 ((a[i]! * b[j]! + s[i + j]! + c : Nat) : Int)) (v' := .int .u64 (T : Int)) (by rw [hT]) Ev.addNU) ?_
      refine Qui.p rfl Ev.assign ?_
      refine Qui.nil ?_
      refine JC.rs ?_
      refine Seq.p rfl Ev.move ?_
      refine Seq.p rfl Ev.move ?_
      refine Seq.p rfl Ev.move ?_
      refine Seq.p rfl (Ev.addN (m := i) (c := j)) ?_
      refine Seq.p rfl Ev.move ?_
      refine Seq.p rfl (Ev.remNU (a := T) (b := 4294967296)) ?_
      refine Seq.p rfl (Ev.convU32 it.uint64 it.uint32) ?_
      refine Seq.p rfl (Ev.iaN sl.bourseref01_big (i := i + j) (hr := RAt.own (enc := numEnc) (v := SV) (xs := s) (hs := by omega))) ?_
      refine Seq.stOwn (enc := numEnc) (xs := s) (q := i + j) (T % 4294967296) sz.uint32 (by decide) (h1 := numOne) (k := ?_)
      refine Seq.nil ?_
      refine JC.reg ?_
      refine Seq.p rfl Ev.move ?_
      refine Seq.p rfl (Ev.shrNU (a := T) 4294967296) ?_
      refine Seq.p rfl Ev.assign ?_
      refine Seq.nil ?_
      refine JC.reg ?_
      refine Seq.p rfl Ev.move ?_
      refine Seq.p rfl (by first | exact Ev.inc | exact Ev.add) ?_
      refine Seq.p rfl Ev.assign ?_
      refine Seq.nil ?_
      exact ⟨(j + 1, T / 4294967296, s.set (i + j) (T % 4294967296)), _, Part.refl _, ⟨Has.mk (by repeat (first | refine Off.upd ?_ rfl | exact Off.mix | refine Off.mix2 ?_ rfl | exact Off.refl)) (allLook_cons (by repeat (first | exact Look.here | apply Look.there (hne := rfl) | exact Look.const | apply Look.mix rfl | exact Look.arg0 | apply Look.args | exact Look.func)) (allLook_cons (by repeat (first | exact Look.here | apply Look.there (hne := rfl) | exact Look.const | apply Look.mix rfl | exact Look.arg0 | apply Look.args | exact Look.func)) allLook_nil)), rfl, by show (s.set _ _).length = _; rw [List.length_set]; exact hsl, dig_set hsd (Nat.mod_lt _ (by decide)), by show j + 1 ≤ _; omega, by show T / 4294967296 < _; omega, fun k h1 h2 => (by
        have h3 : k < s.length := by rw [List.length_set] at h2; exact h2
        show (s.set (i + j) (T % 4294967296))[k]! = 0
        rw [get_set h3 (by omega)]; exact hz2 k h1 h3), hst⟩, by show _ - (j + 1) < _ - j; omega⟩
    · -- else_t25
      obtain rfl : j = b.length := by omega
      have hsk0 := hz2 (i + b.length) (Nat.le_refl _) (by omega)
      have hset := valF_set (r := s) (k := i + b.length) (d := c) (by omega)
      rw [List.take_length, hvm] at hinv2
      have hfin : valF (s.set (i + b.length) c) = valF (a.take (i + 1)) * m := by
        rw [hsk0, Nat.mul_zero, Nat.add_zero, Nat.mul_comm _ c] at hset
        rw [hset, hinv2, valF_take hi2, Nat.add_mul, Nat.mul_comm a[i]!]
      refine JC.exit ?_ -- 2
      refine JC.reg ?_
      refine Seq.p rfl Ev.move ?_
      refine Seq.p rfl Ev.move ?_
      refine Seq.p rfl Ev.move ?_
      refine Seq.p rfl (Ev.lenSl sl.bourseref01_big (hr := hb.r)) ?_
      refine Seq.p rfl (Ev.addN (m := i) (c := b.length)) ?_
      refine Seq.p rfl Ev.move ?_
      refine Seq.p rfl (Ev.convU32 it.uint64 it.uint32) ?_
      refine Seq.p rfl (Ev.iaN sl.bourseref01_big (i := i + b.length) (hr := RAt.own (enc := numEnc) (v := SV) (xs := s) (hs := by omega))) ?_
      refine Seq.stOwn (enc := numEnc) (xs := s) (q := i + b.length) c sz.uint32 (by decide) (h1 := numOne) (k := ?_)
      refine Seq.nil ?_
      refine JC.reg ?_
      refine Seq.p rfl Ev.move ?_
      refine Seq.p rfl (by first | exact Ev.inc | exact Ev.add) ?_
      refine Seq.p rfl Ev.assign ?_
      refine Seq.nil ?_
      refine ⟨(i + 1, s.set (i + b.length) c), _, Part.refl _, ⟨Has.mk (by repeat (first | refine Off.upd ?_ rfl | exact Off.mix | refine Off.mix2 ?_ rfl | exact Off.refl)) (allLook_cons (by repeat (first | exact Look.here | apply Look.there (hne := rfl) | exact Look.const | apply Look.mix rfl | exact Look.arg0 | apply Look.args | exact Look.func)) allLook_nil), rfl, by show (s.set _ _).length = _; rw [List.length_set]; exact hsl, dig_set hsd hcl, by show i + 1 ≤ _; omega, fun k h1 h2 => (by
        have h3 : k < s.length := by rw [List.length_set] at h2; exact h2
        show (s.set (i + b.length) c)[k]! = 0
        have h1' : i + 1 + b.length ≤ k := h1
        rw [get_set h3 (by omega)]; exact hz2 k (by omega) h3), hfin⟩, by show _ - (i + 1) < _ - i; omega⟩
  · -- else_t19
    obtain rfl : i = a.length := by omega
    have hv : valF r = n * m := by rw [hinv, List.take_length, hvn]
    rw [hSV, ← hrl]
    refine JC.exit ?_ -- 0
    refine JC.rs ?_
    refine Seq.p rfl Ev.move ?_
    refine Seq.call rfl (fun w' hw => refTrimmed (D := r) (hw.part (Part.here (Part.nil _))).own hrd (by omega)) (Gs := [_]) (F := []) (by exact List.Perm.refl _) ?_
    rintro u H' hP
    rw [hv] at hP
    obtain ⟨A', c', rfl, rfl⟩ := hP
    simp only [List.cons_append, List.nil_append]
    refine Seq.p rfl Ev.assign ?_
    refine Seq.nil ?_
    refine JC.ret ?_
    show retQ _ _ _ _ _ _ _ _
    refine ret1 (hp := Part.refl _) (hpost := ?_)
    exact ⟨A', c', rfl, rfl⟩
end Go.Rx
/- The reference's money: amounts, sums, products, the turnover. -/
namespace Go.Rx
open Go Go.RowKit
set_option linter.unusedVariables false
set_option linter.unusedSimpArgs false
theorem dg_most : dg 170141183460469231731687303715884105727 = [4294967295, 4294967295, 4294967295, 2147483647] := by
  have h := (dg_unique [4294967295, 4294967295, 4294967295, 2147483647] (by intro d hd; simp only [List.mem_cons, List.not_mem_nil, or_false] at hd; rcases hd with rfl | rfl | rfl | rfl <;> decide) (.inr (by decide))).1
  rw [← h]
  congr 1
theorem refMost {w : World} : Spec Go.Proofs.Try.prog 59 #[] w [] (BigPost 170141183460469231731687303715884105727) := by
  refine Spec.enter (fn := Go.Proofs.Try.f59) (n := 2) [] Go.Proofs.Try.func59 (by kernel_rfl) rfl Go.Proofs.Try.ntmps59 Go.Proofs.Try.results59 rfl (Own.nil _) ?_
  refine JC.rs ?_
  refine Seq.p rfl Ev.assign ?_
  refine Seq.nil ?_
  refine JC.rs ?_
  refine Seq.buildSlN [.int .u32 4294967295, .int .u32 4294967295, .int .u32 4294967295, .int .u32 2147483647] (hsl := sl.bourseref01_big) (hz := z.uint32) (k := ?_); intro b1
  refine Seq.re (fun w h => Upd.boxOwn h (n := 4) (size := 1) At.z rfl (by omega)) ?_
  refine Seq.p rfl Ev.assign ?_
  refine Seq.nil ?_
  refine JC.ret ?_
  show retQ _ _ _ _ _ _ _ _
  refine ret1 (hp := Part.refl _) (hpost := ?_)
  unfold BigPost bigL
  rw [dg_most]
  exact ⟨_, _, rfl, rfl⟩
abbrev moneyTop : Nat := 170141183460469231731687303715884105728
theorem cmp_most {n : Nat} : (0 < cmpF n 170141183460469231731687303715884105727) ↔ ¬ n < moneyTop := by
  unfold cmpF moneyTop
  split
  · omega
  · split <;> omega
set_option maxHeartbeats 1000000 in
set_option maxRecDepth 100000 in
theorem refAmount {w : World} {b : Bool} {v : Value} {n : Nat} (ha : RSl numEnc 1 w [] v (dg n)) : Spec Go.Proofs.Try.prog 50 #[.bool b, v] w [] (fun u _ => u = if n < moneyTop then .tuple #[.agg #[.bool (b && decide (0 < ((dg n).length : Int))), v], .int .i64 0] else .tuple #[.agg #[.bool false, .slice none 0 0], .int .i64 10]) := by
  have hs := ha.small
  obtain ⟨A0, c0, hv, _⟩ := ha.shape
  refine Spec.enter (fn := Go.Proofs.Try.f50) (n := 19) [.bool b, v] Go.Proofs.Try.func50 (by kernel_rfl) rfl Go.Proofs.Try.ntmps50 Go.Proofs.Try.results50 rfl (Own.nil _) ?_
  refine JC.rs ?_
  refine Seq.alloc (cs := [_, _]) (hz := z.bourseref01_Money) (k := ?_); intro b4
  refine Seq.p rfl Ev.assign ?_
  refine Seq.nil ?_
  refine JC.seq ?_
  refine JC.rs ?_
  refine Seq.p rfl Ev.move ?_
  refine Seq.call rfl (fun w' hw => refMost) (Gs := []) (F := _) (by exact List.Perm.refl _) ?_
  rintro _ _ ⟨A7, c7, rfl, rfl⟩
  simp only [List.cons_append, List.nil_append]
  refine Seq.callP rfl (fun w' hw => refCompare (ha.up hw) (RAt.up (RAt.own (enc := numEnc) (v := .slice A7 (dg 170141183460469231731687303715884105727).length c7) (xs := dg 170141183460469231731687303715884105727) (hs := by rw [dg_most]; decide)) hw)) ?_
  refine Seq.p rfl Ev.gt ?_
  refine Seq.nil ?_
  first | refine JC.c (ht := fun c9 => ?_) (hf := fun c9 => ?_) | refine JC.cb (ht := fun c9 => ?_) (hf := fun c9 => ?_)
  · -- then_t9
    refine JC.rs ?_
    refine Seq.p rfl (Ev.buildN [_, _] pl.bourseref01_Money z.bourseref01_Money) ?_
    refine Seq.storeN [_, _] sz.bourseref01_Money (k := ?_)
    refine Seq.p rfl Ev.assign ?_
    refine Seq.nil ?_
    refine JC.ret ?_
    show retQ _ _ _ _ _ _ _ _
    refine retB2 ag.bourseref01_Money (hp := Part.nil _) (hpost := ?_)
    rw [if_neg (cmp_most.1 c9)]
    all_goals rfl
  · -- else_t9
    refine JC.skip ?_
    refine JC.rs ?_
    refine Seq.p rfl Ev.move ?_
    refine Seq.p rfl Ev.move ?_
    refine Seq.andG (D := [12, 13, 14, 15, 16]) (d := 12) (t := 16) (k := 4) (hn := fun h12 => ?_) (hx := ?_)
    · repeat (first | refine Seq.gn rfl rfl rfl rfl ?_ | refine Seq.gu rfl rfl rfl ?_)
      refine Seq.p rfl Ev.pickF ?_
      exact Seq.nil ⟨rfl, (by repeat (first | with_reducible exact Off.refl | refine Off.upd ?_ rfl | exact Off.mix | refine Off.mix2 ?_ rfl)), Look.here⟩
    apply Exists.intro
    refine ⟨fun h12 => ?_, fun u16 => ?_⟩
    · try simp only [decide_eq_true_eq, decide_eq_false_iff_not, Bool.and_eq_true, Bool.or_eq_true, Bool.not_eq_true', Bool.not_eq_false', Bool.or_eq_false_iff, Bool.and_eq_false_imp] at h12
      refine Seq.gy rfl rfl rfl ?_
      refine Seq.p rfl Ev.move ?_
      refine Seq.gy rfl rfl rfl ?_
      refine Seq.p rfl (Ev.lenSl sl.bourseref01_big (hr := ha.r)) ?_
      refine Seq.gy rfl rfl rfl ?_
      refine Seq.p rfl Ev.gt ?_
      refine Seq.p rfl Ev.pickT ?_
      exact Seq.nil ⟨rfl, (by repeat (first | with_reducible exact Off.refl | refine Off.upd ?_ rfl | exact Off.mix | refine Off.mix2 ?_ rfl)), Look.here⟩
    refine Seq.p rfl Ev.move ?_
    refine Seq.p rfl (Ev.buildN [.bool (b && decide (0 < ((dg n).length : Int))), v] pl.bourseref01_Money z.bourseref01_Money (hcs := by subst hv; rfl)) ?_
    refine Seq.storeTo (cs' := [.bool (b && decide (0 < ((dg n).length : Int))), v]) sz.bourseref01_Money (hvs := rfl) (h1 := by subst hv; rfl) (hH := by repeat (first | exact At.z | apply At.s)) (hfit := Nat.le_of_ble_eq_true rfl) (hcs := rfl) (k := ?_)
    refine Seq.p rfl Ev.assign ?_
    refine Seq.nil ?_
    refine JC.ret ?_
    show retQ _ _ _ _ _ _ _ _
    refine retB2 ag.bourseref01_Money (hp := Part.nil _) (hpost := ?_)
    rw [if_pos (Classical.not_not.1 (fun h => c9 (cmp_most.2 h)))]
    all_goals rfl
theorem dg_len4 {n : Nat} (h : n < moneyTop) : (dg n).length ≤ 4 := dg_len_le (k := 4) (by show n < 340282366920938463463374607431768211456; unfold moneyTop at h; omega)
theorem amt_form {A : Option Addr} {l c n : Nat} : ∃ A' l' c' e', (if n < moneyTop then Value.tuple #[.agg #[.bool (false && decide (0 < ((dg n).length : Int))), .slice A l c], .int .i64 0] else .tuple #[.agg #[.bool false, .slice none 0 0], .int .i64 10]) = .tuple #[.agg #[.bool false, .slice A' l' c'], .int .i64 e'] ∧ ((n < moneyTop ∧ A' = A ∧ l' = l ∧ c' = c ∧ e' = 0) ∨ (¬ n < moneyTop ∧ A' = none ∧ l' = 0 ∧ c' = 0 ∧ e' = 10)) := by
  by_cases h : n < moneyTop
  · rw [if_pos h]; exact ⟨A, l, c, 0, rfl, .inl ⟨h, rfl, rfl, rfl, rfl⟩⟩
  · rw [if_neg h]; exact ⟨none, 0, 0, 10, rfl, .inr ⟨h, rfl, rfl, rfl, rfl⟩⟩
set_option maxHeartbeats 2000000 in
set_option maxRecDepth 100000 in
theorem refAddM {w : World} {va vb : Value} {n m : Nat} (ha : RSl numEnc 1 w [] va (dg n)) (hb : RSl numEnc 1 w [] vb (dg m)) (hn : n < moneyTop) (hm : m < moneyTop) : Spec Go.Proofs.Try.prog 40 #[.agg #[.bool false, va], .agg #[.bool false, vb]] w []
    (fun u H' => ∃ A c A' l' c' e', u = .tuple #[.agg #[.bool false, .slice A' l' c'], .int .i64 e'] ∧ H' = [bigL (.slice A (dg (n + m)).length c) (dg (n + m))] ∧ ((n + m < moneyTop ∧ A' = A ∧ l' = (dg (n + m)).length ∧ c' = c ∧ e' = 0) ∨ (¬ n + m < moneyTop ∧ A' = none ∧ l' = 0 ∧ c' = 0 ∧ e' = 10))) := by
  obtain ⟨A0, c0, hva, _⟩ := ha.shape
  obtain ⟨B0, d0, hvb, _⟩ := hb.shape
  have hl1 := dg_len4 hn
  have hl2 := dg_len4 hm
  have hs : (dg (n + m)).length ≤ 4 := dg_len_le (k := 4) (by show n + m < 340282366920938463463374607431768211456; unfold moneyTop at hn hm; omega)
  subst hva hvb
  refine Spec.enter (fn := Go.Proofs.Try.f40) (n := 47) [.agg #[.bool false, .slice A0 (dg n).length c0], .agg #[.bool false, .slice B0 (dg m).length d0]] Go.Proofs.Try.func40 (by kernel_rfl) rfl Go.Proofs.Try.ntmps40 Go.Proofs.Try.results40 rfl (Own.nil _) ?_
  refine JC.rs ?_
  refine Seq.box (cs := [_, _]) (k := ?_); intro b2
  refine Seq.box (cs := [_, _]) (k := ?_); intro b3
  refine Seq.alloc (cs := [_, _]) (hz := z.bourseref01_Money) (k := ?_); intro b4
  refine Seq.p rfl Ev.assign ?_
  refine Seq.nil ?_
  refine JC.seq ?_
  refine JC.rs ?_
  refine Seq.p rfl (Ev.faB fd.bourseref01_Money_0) ?_
  refine Seq.p rfl (Ev.ldB sc.bool) ?_
  refine Seq.p rfl (Ev.faB fd.bourseref01_Money_0) ?_
  refine Seq.p rfl (Ev.ldB sc.bool) ?_
  refine Seq.p rfl (Ev.eqB bl.bool) ?_
  refine Seq.nil ?_
  first | refine JC.c (ht := fun c10 => ?_) (hf := fun c10 => ?_) | refine JC.cb (ht := fun c10 => ?_) (hf := fun c10 => ?_)
  · -- then_t10
    refine JC.asE 0 mixed ?_
    refine Any.p 0 rfl (by kernel_rfl) (by kernel_rfl) (by kernel_rfl) rfl (Ev.faB fd.bourseref01_Money_0) ?_
    refine Any.p 1 rfl (by kernel_rfl) (by kernel_rfl) (by kernel_rfl) rfl (Ev.ldB sc.bool) ?_
    refine Any.p 2 rfl (by kernel_rfl) (by kernel_rfl) (by kernel_rfl) rfl (Ev.faB fd.bourseref01_Money_1) ?_
    refine Any.p 3 rfl (by kernel_rfl) (by kernel_rfl) (by kernel_rfl) rfl (Ev.ldB sc.bourseref01_big) ?_
    refine Any.p 4 rfl (by kernel_rfl) (by kernel_rfl) (by kernel_rfl) rfl (Ev.faB fd.bourseref01_Money_1) ?_
    refine Any.p 5 rfl (by kernel_rfl) (by kernel_rfl) (by kernel_rfl) rfl (Ev.ldB sc.bourseref01_big) ?_
    refine Any.one 6 rfl (by kernel_rfl) ?_
    refine Seq.call rfl (fun w' hw => refPlus (ha.up hw) (hb.up hw) (by omega) (by omega)) (Gs := []) (F := _) (by exact List.Perm.refl _) ?_
    rintro _ _ ⟨A17, e17, rfl, rfl⟩
    simp only [List.cons_append, List.nil_append]
    refine Seq.nil ⟨(by repeat (first | exact Part.refl _ | exact Part.nil _ | apply Part.here | apply Part.skip)), ?_⟩
    refine Any.one 7 rfl (by kernel_rfl) ?_
    obtain ⟨A18, n18, d18, e18, h18, hcase⟩ := amt_form (A := A17) (l := (dg (n + m)).length) (c := e17) (n := n + m)
    refine Seq.callP (v := .tuple #[.agg #[.bool false, .slice A18 n18 d18], .int .i64 e18]) rfl (fun w' hw => h18 ▸ refAmount (b := false) (RAt.up (RAt.own (enc := numEnc) (v := .slice A17 (dg (n + m)).length e17) (xs := dg (n + m)) (hs := by omega)) hw)) ?_
    refine Seq.nil ⟨(by repeat (first | exact Part.refl _ | exact Part.nil _ | apply Part.here | apply Part.skip)), ?_⟩
    refine Any.p 8 rfl (by kernel_rfl) (by kernel_rfl) (by kernel_rfl) rfl Ev.extract ?_
    refine Any.p 9 rfl (by kernel_rfl) (by kernel_rfl) (by kernel_rfl) rfl Ev.extract ?_
    refine Any.one 10 rfl (by kernel_rfl) ?_
    refine Seq.storeN [_, _] sz.bourseref01_Money (k := ?_)
    refine Seq.nil ⟨(by repeat (first | exact Part.refl _ | exact Part.nil _ | apply Part.here | apply Part.skip)), ?_⟩
    refine Any.p 11 rfl (by kernel_rfl) (by kernel_rfl) (by kernel_rfl) rfl Ev.assign ?_
    refine Any.done (by kernel_rfl) ?_
    refine JC.ret ?_
    show retQ _ _ _ _ _ _ _ _
    refine retB2 ag.bourseref01_Money (H' := [bigL (.slice A17 (dg (n + m)).length e17) (dg (n + m))]) (hp := (by repeat (first | exact Part.refl _ | exact Part.nil _ | apply Part.here | apply Part.skip))) (hpost := ?_)
    exact ⟨A17, e17, A18, n18, d18, e18, rfl, rfl, hcase⟩
  · -- else_t10
    simp at c10
set_option maxHeartbeats 1000000 in
set_option maxRecDepth 100000 in
theorem refTimesM {w : World} {p q : Nat} (hp : p < 4294967296) (hq : q < 18446744073709551616) : Spec Go.Proofs.Try.prog 41 #[.int .u32 (p : Int), .int .u64 (q : Int)] w []
    (fun u H' => ∃ A c, u = .agg #[.bool false, .slice A (dg (p * q)).length c] ∧ H' = [bigL (.slice A (dg (p * q)).length c) (dg (p * q))]) := by
  have hl1 : (dg p).length ≤ 2 := dg_len_le (k := 2) (by show p < 18446744073709551616; omega)
  have hl2 : (dg q).length ≤ 2 := dg_len_le (k := 2) hq
  refine Spec.enter (fn := Go.Proofs.Try.f41) (n := 12) [.int .u32 (p : Int), .int .u64 (q : Int)] Go.Proofs.Try.func41 (by kernel_rfl) rfl Go.Proofs.Try.ntmps41 Go.Proofs.Try.results41 rfl (Own.nil _) ?_
  refine JC.rs ?_
  refine Seq.alloc (cs := [_, _]) (hz := z.bourseref01_Money) (k := ?_); intro b4
  refine Seq.nil ?_
  refine JC.rs ?_
  refine Seq.p rfl Ev.move ?_
  refine Seq.p rfl (Ev.convU64 it.uint32 it.uint64) ?_
  refine Seq.call rfl (fun w' hw => refOf (n := p) (by omega)) (Gs := []) (F := _) (by exact List.Perm.refl _) ?_
  rintro _ _ ⟨A7, c7, rfl, rfl⟩
  simp only [List.cons_append, List.nil_append]
  refine Seq.p rfl Ev.move ?_
  refine Seq.call rfl (fun w' hw => refOf (n := q) hq) (Gs := []) (F := _) (by exact List.Perm.refl _) ?_
  rintro _ _ ⟨A9, c9, rfl, rfl⟩
  simp only [List.cons_append, List.nil_append]
  refine Seq.call rfl (fun w' hw => refTimes (RAt.up (RAt.own (enc := numEnc) (v := .slice A7 (dg p).length c7) (xs := dg p) (hs := by omega)) hw) (RAt.up (RAt.own (enc := numEnc) (v := .slice A9 (dg q).length c9) (xs := dg q) (hs := by omega)) hw) (by omega) (by omega)) (Gs := []) (F := _) (by exact List.Perm.refl _) ?_
  rintro _ _ ⟨A10, c10, rfl, rfl⟩
  simp only [List.cons_append, List.nil_append]
  refine Seq.p rfl (Ev.buildN [_, _] pl.bourseref01_Money z.bourseref01_Money) ?_
  refine Seq.storeN [_, _] sz.bourseref01_Money (k := ?_)
  refine Seq.nil ?_
  refine JC.ret ?_
  show retQ _ _ _ _ _ _ _ _
  refine retB1 ag.bourseref01_Money (H' := [bigL (.slice A10 (dg (p * q)).length c10) (dg (p * q))]) (hp := (by repeat (first | exact Part.refl _ | exact Part.nil _ | apply Part.here | apply Part.skip))) (hpost := ?_)
  exact ⟨A10, c10, rfl, rfl⟩
end Go.Rx
/- The reference's turnover; numbers doubled and divided. -/
namespace Go.Rx
open Go Go.RowKit
set_option linter.unusedVariables false
set_option linter.unusedSimpArgs false
set_option maxHeartbeats 4000000 in
set_option maxRecDepth 100000 in
theorem refTurnover {w : World} {v : Value} {es : List Event} (he : RSl Event.enc 13 w [] v es) (hq : goodQ es) : Spec Go.Proofs.Try.prog 18 #[v] w []
    (fun u H' => ∃ A c, u = .agg #[.bool false, .slice A (dg (turnF (es.map Event.trd))).length c] ∧ H' = [bigL (.slice A (dg (turnF (es.map Event.trd))).length c) (dg (turnF (es.map Event.trd)))]) := by
  have hs := he.small
  have hdl : (es.map Event.trd).length = es.length := List.length_map ..
  refine Spec.enter (fn := Go.Proofs.Try.f18) (n := 34) [v] Go.Proofs.Try.func18 (by kernel_rfl) rfl Go.Proofs.Try.ntmps18 Go.Proofs.Try.results18 rfl (Own.nil _) ?_
  refine JC.rs ?_
  refine Seq.alloc (cs := [_, _]) (hz := z.bourseref01_Money) (k := ?_); intro b2
  refine Seq.nil ?_
  refine JC.rs ?_
  refine Seq.p rfl (Ev.buildN [_, _] pl.bourseref01_Money z.bourseref01_Money) ?_
  refine Seq.alloc (cs := [_, _]) (hz := z.bourseref01_Money) (k := ?_); intro b3
  refine Seq.storeN [_, _] sz.bourseref01_Money (k := ?_)
  refine Seq.nil ?_
  refine JC.seq ?_
  refine JC.rs ?_
  refine Seq.p rfl Ev.assign ?_
  refine Seq.nil ?_
  refine JC.blk ?_
  refine JC.re (fun w h => Upd.nilOwn h 42 1) ?_
  refine JC.loop (α := Nat) (I := fun i e1 H1 => ∃ A c, Has [4, 5, 6, 8, 9, 10, 11, 12, 13, 14, 15, 16, 17, 18, 19, 20, 21, 22, 23, 24, 25, 26, 27, 28, 29, 30, 31, 32] [(4, .int .i64 (i : Int))] _ e1 ∧ H1 = [bigL (.slice A (dg (turnF ((es.map Event.trd).take i))).length c) (dg (turnF ((es.map Event.trd).take i))), .box b3 54 [.bool false, .slice A (dg (turnF ((es.map Event.trd).take i))).length c], .box b2 54 [.bool false, .slice none 0 0]] ∧ i ≤ es.length) (μ := fun i => es.length - i) 0 ⟨none, 0, Has.mk Off.refl (allLook_cons (by repeat (first | exact Look.here | apply Look.there (hne := rfl) | exact Look.const | apply Look.mix rfl | exact Look.arg0 | apply Look.args | exact Look.func)) allLook_nil), by rw [List.take_zero, show turnF [] = 0 from rfl, dg_zero]; rfl, by omega⟩ ?_
  rintro i _ _ ⟨A, c, ⟨u, rfl⟩, rfl, hi⟩; dsimp only [setL]
  refine JC.seq ?_
  refine JC.rs ?_
  refine Seq.p rfl Ev.move ?_
  refine Seq.p rfl Ev.move ?_
  refine Seq.p rfl (Ev.lenSl sl.sl_api_Event (hr := he.r)) ?_
  refine Seq.p rfl Ev.lt ?_
  refine Seq.nil ?_
  first | refine JC.c (ht := fun c11 => ?_) (hf := fun c11 => ?_) | refine JC.cb (ht := fun c11 => ?_) (hf := fun c11 => ?_)
  · -- then_t11
    have hi2 : i < es.length := by omega
    have hT := turnF_take (l := es.map Event.trd) (i := i) (by rw [hdl]; exact hi2)
    rw [trd_get hi2] at hT
    have hMl := turnF_lt ((es.map Event.trd).take i)
    have hqg : 0 ≤ es[i]!.qty ∧ es[i]!.qty ≤ 18446744073709551615 := by rw [getElem!_pos es i hi2]; exact hq _ (List.getElem_mem hi2)
    have hqn : ((es[i]!.qty.toNat : Nat) : Int) = es[i]!.qty := Int.toNat_of_nonneg hqg.1
    have hwl := worthF_lt es[i]!.price
    have hwp : worthF es[i]!.price * es[i]!.qty.toNat ≤ 4835703278458516698824704 := worth_prod (t := es[i]!.trd) (by show es[i]!.qty.toNat < _; omega)
    have hT2 : turnF ((es.map Event.trd).take (i + 1)) = if turnF ((es.map Event.trd).take i) + worthF es[i]!.price * es[i]!.qty.toNat < moneyTop then turnF ((es.map Event.trd).take i) + worthF es[i]!.price * es[i]!.qty.toNat else turnF ((es.map Event.trd).take i) := hT
    obtain ⟨M, hM⟩ : ∃ M, M = turnF ((es.map Event.trd).take i) := ⟨_, rfl⟩
    obtain ⟨x, hx⟩ : ∃ x, x = worthF es[i]!.price * es[i]!.qty.toNat := ⟨_, rfl⟩
    have htm : ∀ w', Spec Go.Proofs.Try.prog 41 #[.int .u32 (worthF es[i]!.price : Int), .int .u64 es[i]!.qty] w' [] (fun u H' => ∃ A c, u = .agg #[.bool false, .slice A (dg x).length c] ∧ H' = [bigL (.slice A (dg x).length c) (dg x)]) := fun w' => by
      have h := refTimesM (w := w') (p := worthF es[i]!.price) (q := es[i]!.qty.toNat) (by omega) (by omega)
      rw [hqn, ← hx] at h
      exact h
    rw [← hM, ← hx] at hT2
    rw [← hM] at hMl ⊢
    rw [← hx] at hwp
    have hl1 := dg_len4 (n := M) (by unfold moneyTop; omega)
    have hl2 := dg_len4 (n := x) (by unfold moneyTop; omega)
    refine JC.skip ?_
    refine JC.seq ?_
    refine JC.blk ?_
    refine JC.as mixed ?_
    refine Any.p 0 rfl (by kernel_rfl) (by kernel_rfl) (by kernel_rfl) rfl (Ev.ldBA (cs := [.bool false, .slice A (dg M).length c]) ag.bourseref01_Money) ?_
    refine Any.p 1 rfl (by kernel_rfl) (by kernel_rfl) (by kernel_rfl) rfl Ev.move ?_
    refine Any.p 2 rfl (by kernel_rfl) (by kernel_rfl) (by kernel_rfl) rfl Ev.move ?_
    refine Any.p 3 rfl (by kernel_rfl) (by kernel_rfl) (by kernel_rfl) rfl (Ev.iaN sl.sl_api_Event (hr := he.r)) ?_
    refine Any.p 4 rfl (by kernel_rfl) (by kernel_rfl) (by kernel_rfl) rfl (Ev.ldEA ag.api_Event (hr := he.r)) ?_
    refine Any.call 5 rfl (by kernel_rfl) (by kernel_rfl) (by kernel_rfl) rfl (fun w hw => refPrice (e := es[i]!)) ?_
    refine Any.p 6 rfl (by kernel_rfl) (by kernel_rfl) (by kernel_rfl) rfl Ev.move ?_
    refine Any.p 7 rfl (by kernel_rfl) (by kernel_rfl) (by kernel_rfl) rfl Ev.move ?_
    refine Any.p 8 rfl (by kernel_rfl) (by kernel_rfl) (by kernel_rfl) rfl (Ev.iaN sl.sl_api_Event (hr := he.r)) ?_
    refine Any.p 9 rfl (by kernel_rfl) (by kernel_rfl) (by kernel_rfl) rfl (Ev.fa fd.api_Event_9) ?_
    refine Any.p 10 rfl (by kernel_rfl) (by kernel_rfl) (by kernel_rfl) rfl (Ev.ldE sc.uint64 (hr := he.r)) ?_
    refine Any.two 11 16 rfl rfl (by kernel_rfl) ?_ ?_
    · -- first 11
      refine Seq.call rfl (fun w' hw => htm w') (Gs := []) (F := _) (by exact List.Perm.refl _) ?_
      rintro _ _ ⟨A26, c26, rfl, rfl⟩
      simp only [List.cons_append, List.nil_append]
      refine Seq.nil ⟨(by repeat (first | exact Part.refl _ | exact Part.nil _ | apply Part.here | apply Part.skip)), ?_⟩
      refine Any.two 12 16 rfl rfl (by kernel_rfl) ?_ ?_
      · -- first 12
        refine Seq.call rfl (fun w' hw => refAddM (RAt.up (RAt.own (enc := numEnc) (v := .slice A (dg M).length c) (xs := dg M) (hs := by omega)) hw) (RAt.up (RAt.own (enc := numEnc) (v := .slice A26 (dg x).length c26) (xs := dg x) (hs := by omega)) hw) (by unfold moneyTop; omega) (by unfold moneyTop; omega)) (Gs := []) (F := _) (by exact List.Perm.refl _) ?_
        rintro _ _ ⟨A27, c27, A28, l28, c28, e28, rfl, rfl, hcase⟩
        simp only [List.cons_append, List.nil_append]
        refine Seq.nil ⟨(by repeat (first | exact Part.refl _ | exact Part.nil _ | apply Part.here | apply Part.skip)), ?_⟩
        refine Any.p 13 rfl (by kernel_rfl) (by kernel_rfl) (by kernel_rfl) rfl Ev.move ?_
        refine Any.p 14 rfl (by kernel_rfl) (by kernel_rfl) (by kernel_rfl) rfl Ev.extract ?_
        refine Any.p 15 rfl (by kernel_rfl) (by kernel_rfl) (by kernel_rfl) rfl Ev.extract ?_
        refine Any.one 16 rfl (by kernel_rfl) ?_
        refine Seq.alloc (cs := [_, _]) (hz := z.bourseref01_Money) (k := ?_); intro b5
        refine Seq.nil ⟨(by repeat (first | exact Part.refl _ | exact Part.nil _ | apply Part.here | apply Part.skip)), ?_⟩
        refine Any.one 17 rfl (by kernel_rfl) ?_
        refine Seq.storeTo (cs' := [.bool false, .slice A28 l28 c28]) sz.bourseref01_Money (hH := by repeat (first | exact At.z | apply At.s)) (hfit := Nat.le_of_ble_eq_true rfl) (hcs := rfl) (k := ?_)
        refine Seq.nil ⟨(by repeat (first | exact Part.refl _ | exact Part.nil _ | apply Part.here | apply Part.skip)), ?_⟩
        refine Any.p 18 rfl (by kernel_rfl) (by kernel_rfl) (by kernel_rfl) rfl Ev.assign ?_
        refine Any.done (by kernel_rfl) ?_
        refine JC.rs ?_
        refine Seq.p rfl Ev.move ?_
        refine Seq.p rfl Ev.eq ?_
        refine Seq.nil ?_
        first | refine JC.c (ht := fun c31 => ?_) (hf := fun c31 => ?_) | refine JC.cb (ht := fun c31 => ?_) (hf := fun c31 => ?_)
        · -- then_t31
          obtain ⟨hov, rfl, rfl, rfl, _⟩ := hcase.resolve_right (fun h => by have := h.2.2.2.2; omega)
          rw [if_pos hov] at hT2
          refine JC.reg ?_
          refine Seq.p rfl (Ev.ldBA (cs := [.bool false, .slice A28 (dg (M + x)).length c28]) ag.bourseref01_Money) ?_
          refine Seq.storeTo (cs' := [.bool false, .slice A28 (dg (M + x)).length c28]) sz.bourseref01_Money (hH := by repeat (first | exact At.z | apply At.s)) (hfit := Nat.le_of_ble_eq_true rfl) (hcs := rfl) (k := ?_)
          refine Seq.nil ?_
          refine JC.reg ?_
          refine Seq.p rfl Ev.move ?_
          refine Seq.p rfl (by first | exact Ev.inc | exact Ev.add) ?_
          refine Seq.p rfl Ev.assign ?_
          refine Seq.nil ?_
          first
            | (have hov2 : M + x < moneyTop := hov
               exact ⟨i + 1, [bigL (.slice A28 (dg (M + x)).length c28) (dg (M + x)), .box b3 54 [.bool false, .slice A28 (dg (M + x)).length c28], .box b2 54 [.bool false, .slice none 0 0]], (by repeat (first | exact Part.nil _ | refine Part.at (by repeat (first | exact At.z | apply At.s)) ?_)), ⟨A28, c28, Has.mk (by repeat (first | refine Off.upd ?_ rfl | exact Off.mix | refine Off.mix2 ?_ rfl | exact Off.refl)) (allLook_cons (by repeat (first | exact Look.here | apply Look.there (hne := rfl) | exact Look.const | apply Look.mix rfl | exact Look.arg0 | apply Look.args | exact Look.func)) allLook_nil), by rw [hT2], by omega⟩, by omega⟩)
            | (have hov2 : ¬ M + x < moneyTop := hov
               exact ⟨i + 1, [bigL (.slice A (dg M).length c) (dg M), .box b3 54 [.bool false, .slice A (dg M).length c], .box b2 54 [.bool false, .slice none 0 0]], (by repeat (first | exact Part.nil _ | refine Part.at (by repeat (first | exact At.z | apply At.s)) ?_)), ⟨A, c, Has.mk (by repeat (first | refine Off.upd ?_ rfl | exact Off.mix | refine Off.mix2 ?_ rfl | exact Off.refl)) (allLook_cons (by repeat (first | exact Look.here | apply Look.there (hne := rfl) | exact Look.const | apply Look.mix rfl | exact Look.arg0 | apply Look.args | exact Look.func)) allLook_nil), by rw [hT2], by omega⟩, by omega⟩)
        · -- else_t31
          obtain ⟨hov, _⟩ := hcase.resolve_left (fun h => c31 h.2.2.2.2)
          rw [if_neg hov] at hT2
          refine JC.skip ?_
          refine JC.reg ?_
          refine Seq.p rfl Ev.move ?_
          refine Seq.p rfl (by first | exact Ev.inc | exact Ev.add) ?_
          refine Seq.p rfl Ev.assign ?_
          refine Seq.nil ?_
          first
            | (have hov2 : M + x < moneyTop := hov
               exact ⟨i + 1, [bigL (.slice A28 (dg (M + x)).length c28) (dg (M + x)), .box b3 54 [.bool false, .slice A28 (dg (M + x)).length c28], .box b2 54 [.bool false, .slice none 0 0]], (by repeat (first | exact Part.nil _ | refine Part.at (by repeat (first | exact At.z | apply At.s)) ?_)), ⟨A28, c28, Has.mk (by repeat (first | refine Off.upd ?_ rfl | exact Off.mix | refine Off.mix2 ?_ rfl | exact Off.refl)) (allLook_cons (by repeat (first | exact Look.here | apply Look.there (hne := rfl) | exact Look.const | apply Look.mix rfl | exact Look.arg0 | apply Look.args | exact Look.func)) allLook_nil), by rw [hT2], by omega⟩, by omega⟩)
            | (have hov2 : ¬ M + x < moneyTop := hov
               exact ⟨i + 1, [bigL (.slice A (dg M).length c) (dg M), .box b3 54 [.bool false, .slice A (dg M).length c], .box b2 54 [.bool false, .slice none 0 0]], (by repeat (first | exact Part.nil _ | refine Part.at (by repeat (first | exact At.z | apply At.s)) ?_)), ⟨A, c, Has.mk (by repeat (first | refine Off.upd ?_ rfl | exact Off.mix | refine Off.mix2 ?_ rfl | exact Off.refl)) (allLook_cons (by repeat (first | exact Look.here | apply Look.there (hne := rfl) | exact Look.const | apply Look.mix rfl | exact Look.arg0 | apply Look.args | exact Look.func)) allLook_nil), by rw [hT2], by omega⟩, by omega⟩)
      · -- first 16
        refine Seq.alloc (cs := [_, _]) (hz := z.bourseref01_Money) (k := ?_); intro b5
        refine Seq.nil ⟨(by repeat (first | exact Part.refl _ | exact Part.nil _ | apply Part.here | apply Part.skip)), ?_⟩
        refine Any.one 12 rfl (by kernel_rfl) ?_
        refine Seq.call rfl (fun w' hw => refAddM (RAt.up (RAt.own (enc := numEnc) (v := .slice A (dg M).length c) (xs := dg M) (hs := by omega)) hw) (RAt.up (RAt.own (enc := numEnc) (v := .slice A26 (dg x).length c26) (xs := dg x) (hs := by omega)) hw) (by unfold moneyTop; omega) (by unfold moneyTop; omega)) (Gs := []) (F := _) (by exact List.Perm.refl _) ?_
        rintro _ _ ⟨A27, c27, A28, l28, c28, e28, rfl, rfl, hcase⟩
        simp only [List.cons_append, List.nil_append]
        refine Seq.nil ⟨(by repeat (first | exact Part.refl _ | exact Part.nil _ | apply Part.here | apply Part.skip)), ?_⟩
        refine Any.p 13 rfl (by kernel_rfl) (by kernel_rfl) (by kernel_rfl) rfl Ev.move ?_
        refine Any.p 14 rfl (by kernel_rfl) (by kernel_rfl) (by kernel_rfl) rfl Ev.extract ?_
        refine Any.p 15 rfl (by kernel_rfl) (by kernel_rfl) (by kernel_rfl) rfl Ev.extract ?_
        refine Any.one 17 rfl (by kernel_rfl) ?_
        refine Seq.storeTo (cs' := [.bool false, .slice A28 l28 c28]) sz.bourseref01_Money (hH := by repeat (first | exact At.z | apply At.s)) (hfit := Nat.le_of_ble_eq_true rfl) (hcs := rfl) (k := ?_)
        refine Seq.nil ⟨(by repeat (first | exact Part.refl _ | exact Part.nil _ | apply Part.here | apply Part.skip)), ?_⟩
        refine Any.p 18 rfl (by kernel_rfl) (by kernel_rfl) (by kernel_rfl) rfl Ev.assign ?_
        refine Any.done (by kernel_rfl) ?_
        refine JC.rs ?_
        refine Seq.p rfl Ev.move ?_
        refine Seq.p rfl Ev.eq ?_
        refine Seq.nil ?_
        first | refine JC.c (ht := fun c31 => ?_) (hf := fun c31 => ?_) | refine JC.cb (ht := fun c31 => ?_) (hf := fun c31 => ?_)
        · -- then_t31
          obtain ⟨hov, rfl, rfl, rfl, _⟩ := hcase.resolve_right (fun h => by have := h.2.2.2.2; omega)
          rw [if_pos hov] at hT2
          refine JC.reg ?_
          refine Seq.p rfl (Ev.ldBA (cs := [.bool false, .slice A28 (dg (M + x)).length c28]) ag.bourseref01_Money) ?_
          refine Seq.storeTo (cs' := [.bool false, .slice A28 (dg (M + x)).length c28]) sz.bourseref01_Money (hH := by repeat (first | exact At.z | apply At.s)) (hfit := Nat.le_of_ble_eq_true rfl) (hcs := rfl) (k := ?_)
          refine Seq.nil ?_
          refine JC.reg ?_
          refine Seq.p rfl Ev.move ?_
          refine Seq.p rfl (by first | exact Ev.inc | exact Ev.add) ?_
          refine Seq.p rfl Ev.assign ?_
          refine Seq.nil ?_
          first
            | (have hov2 : M + x < moneyTop := hov
               exact ⟨i + 1, [bigL (.slice A28 (dg (M + x)).length c28) (dg (M + x)), .box b3 54 [.bool false, .slice A28 (dg (M + x)).length c28], .box b2 54 [.bool false, .slice none 0 0]], (by repeat (first | exact Part.nil _ | refine Part.at (by repeat (first | exact At.z | apply At.s)) ?_)), ⟨A28, c28, Has.mk (by repeat (first | refine Off.upd ?_ rfl | exact Off.mix | refine Off.mix2 ?_ rfl | exact Off.refl)) (allLook_cons (by repeat (first | exact Look.here | apply Look.there (hne := rfl) | exact Look.const | apply Look.mix rfl | exact Look.arg0 | apply Look.args | exact Look.func)) allLook_nil), by rw [hT2], by omega⟩, by omega⟩)
            | (have hov2 : ¬ M + x < moneyTop := hov
               exact ⟨i + 1, [bigL (.slice A (dg M).length c) (dg M), .box b3 54 [.bool false, .slice A (dg M).length c], .box b2 54 [.bool false, .slice none 0 0]], (by repeat (first | exact Part.nil _ | refine Part.at (by repeat (first | exact At.z | apply At.s)) ?_)), ⟨A, c, Has.mk (by repeat (first | refine Off.upd ?_ rfl | exact Off.mix | refine Off.mix2 ?_ rfl | exact Off.refl)) (allLook_cons (by repeat (first | exact Look.here | apply Look.there (hne := rfl) | exact Look.const | apply Look.mix rfl | exact Look.arg0 | apply Look.args | exact Look.func)) allLook_nil), by rw [hT2], by omega⟩, by omega⟩)
        · -- else_t31
          obtain ⟨hov, _⟩ := hcase.resolve_left (fun h => c31 h.2.2.2.2)
          rw [if_neg hov] at hT2
          refine JC.skip ?_
          refine JC.reg ?_
          refine Seq.p rfl Ev.move ?_
          refine Seq.p rfl (by first | exact Ev.inc | exact Ev.add) ?_
          refine Seq.p rfl Ev.assign ?_
          refine Seq.nil ?_
          first
            | (have hov2 : M + x < moneyTop := hov
               exact ⟨i + 1, [bigL (.slice A28 (dg (M + x)).length c28) (dg (M + x)), .box b3 54 [.bool false, .slice A28 (dg (M + x)).length c28], .box b2 54 [.bool false, .slice none 0 0]], (by repeat (first | exact Part.nil _ | refine Part.at (by repeat (first | exact At.z | apply At.s)) ?_)), ⟨A28, c28, Has.mk (by repeat (first | refine Off.upd ?_ rfl | exact Off.mix | refine Off.mix2 ?_ rfl | exact Off.refl)) (allLook_cons (by repeat (first | exact Look.here | apply Look.there (hne := rfl) | exact Look.const | apply Look.mix rfl | exact Look.arg0 | apply Look.args | exact Look.func)) allLook_nil), by rw [hT2], by omega⟩, by omega⟩)
            | (have hov2 : ¬ M + x < moneyTop := hov
               exact ⟨i + 1, [bigL (.slice A (dg M).length c) (dg M), .box b3 54 [.bool false, .slice A (dg M).length c], .box b2 54 [.bool false, .slice none 0 0]], (by repeat (first | exact Part.nil _ | refine Part.at (by repeat (first | exact At.z | apply At.s)) ?_)), ⟨A, c, Has.mk (by repeat (first | refine Off.upd ?_ rfl | exact Off.mix | refine Off.mix2 ?_ rfl | exact Off.refl)) (allLook_cons (by repeat (first | exact Look.here | apply Look.there (hne := rfl) | exact Look.const | apply Look.mix rfl | exact Look.arg0 | apply Look.args | exact Look.func)) allLook_nil), by rw [hT2], by omega⟩, by omega⟩)
    · -- first 16
      refine Seq.alloc (cs := [_, _]) (hz := z.bourseref01_Money) (k := ?_); intro b5
      refine Seq.nil ⟨(by repeat (first | exact Part.refl _ | exact Part.nil _ | apply Part.here | apply Part.skip)), ?_⟩
      refine Any.one 11 rfl (by kernel_rfl) ?_
      refine Seq.call rfl (fun w' hw => htm w') (Gs := []) (F := _) (by exact List.Perm.refl _) ?_
      rintro _ _ ⟨A26, c26, rfl, rfl⟩
      simp only [List.cons_append, List.nil_append]
      refine Seq.nil ⟨(by repeat (first | exact Part.refl _ | exact Part.nil _ | apply Part.here | apply Part.skip)), ?_⟩
      refine Any.one 12 rfl (by kernel_rfl) ?_
      refine Seq.call rfl (fun w' hw => refAddM (RAt.up (RAt.own (enc := numEnc) (v := .slice A (dg M).length c) (xs := dg M) (hs := by omega)) hw) (RAt.up (RAt.own (enc := numEnc) (v := .slice A26 (dg x).length c26) (xs := dg x) (hs := by omega)) hw) (by unfold moneyTop; omega) (by unfold moneyTop; omega)) (Gs := []) (F := _) (by exact List.Perm.refl _) ?_
      rintro _ _ ⟨A27, c27, A28, l28, c28, e28, rfl, rfl, hcase⟩
      simp only [List.cons_append, List.nil_append]
      refine Seq.nil ⟨(by repeat (first | exact Part.refl _ | exact Part.nil _ | apply Part.here | apply Part.skip)), ?_⟩
      refine Any.p 13 rfl (by kernel_rfl) (by kernel_rfl) (by kernel_rfl) rfl Ev.move ?_
      refine Any.p 14 rfl (by kernel_rfl) (by kernel_rfl) (by kernel_rfl) rfl Ev.extract ?_
      refine Any.p 15 rfl (by kernel_rfl) (by kernel_rfl) (by kernel_rfl) rfl Ev.extract ?_
      refine Any.one 17 rfl (by kernel_rfl) ?_
      refine Seq.storeTo (cs' := [.bool false, .slice A28 l28 c28]) sz.bourseref01_Money (hH := by repeat (first | exact At.z | apply At.s)) (hfit := Nat.le_of_ble_eq_true rfl) (hcs := rfl) (k := ?_)
      refine Seq.nil ⟨(by repeat (first | exact Part.refl _ | exact Part.nil _ | apply Part.here | apply Part.skip)), ?_⟩
      refine Any.p 18 rfl (by kernel_rfl) (by kernel_rfl) (by kernel_rfl) rfl Ev.assign ?_
      refine Any.done (by kernel_rfl) ?_
      refine JC.rs ?_
      refine Seq.p rfl Ev.move ?_
      refine Seq.p rfl Ev.eq ?_
      refine Seq.nil ?_
      first | refine JC.c (ht := fun c31 => ?_) (hf := fun c31 => ?_) | refine JC.cb (ht := fun c31 => ?_) (hf := fun c31 => ?_)
      · -- then_t31
        obtain ⟨hov, rfl, rfl, rfl, _⟩ := hcase.resolve_right (fun h => by have := h.2.2.2.2; omega)
        rw [if_pos hov] at hT2
        refine JC.reg ?_
        refine Seq.p rfl (Ev.ldBA (cs := [.bool false, .slice A28 (dg (M + x)).length c28]) ag.bourseref01_Money) ?_
        refine Seq.storeTo (cs' := [.bool false, .slice A28 (dg (M + x)).length c28]) sz.bourseref01_Money (hH := by repeat (first | exact At.z | apply At.s)) (hfit := Nat.le_of_ble_eq_true rfl) (hcs := rfl) (k := ?_)
        refine Seq.nil ?_
        refine JC.reg ?_
        refine Seq.p rfl Ev.move ?_
        refine Seq.p rfl (by first | exact Ev.inc | exact Ev.add) ?_
        refine Seq.p rfl Ev.assign ?_
        refine Seq.nil ?_
        first
          | (have hov2 : M + x < moneyTop := hov
             exact ⟨i + 1, [bigL (.slice A28 (dg (M + x)).length c28) (dg (M + x)), .box b3 54 [.bool false, .slice A28 (dg (M + x)).length c28], .box b2 54 [.bool false, .slice none 0 0]], (by repeat (first | exact Part.nil _ | refine Part.at (by repeat (first | exact At.z | apply At.s)) ?_)), ⟨A28, c28, Has.mk (by repeat (first | refine Off.upd ?_ rfl | exact Off.mix | refine Off.mix2 ?_ rfl | exact Off.refl)) (allLook_cons (by repeat (first | exact Look.here | apply Look.there (hne := rfl) | exact Look.const | apply Look.mix rfl | exact Look.arg0 | apply Look.args | exact Look.func)) allLook_nil), by rw [hT2], by omega⟩, by omega⟩)
          | (have hov2 : ¬ M + x < moneyTop := hov
             exact ⟨i + 1, [bigL (.slice A (dg M).length c) (dg M), .box b3 54 [.bool false, .slice A (dg M).length c], .box b2 54 [.bool false, .slice none 0 0]], (by repeat (first | exact Part.nil _ | refine Part.at (by repeat (first | exact At.z | apply At.s)) ?_)), ⟨A, c, Has.mk (by repeat (first | refine Off.upd ?_ rfl | exact Off.mix | refine Off.mix2 ?_ rfl | exact Off.refl)) (allLook_cons (by repeat (first | exact Look.here | apply Look.there (hne := rfl) | exact Look.const | apply Look.mix rfl | exact Look.arg0 | apply Look.args | exact Look.func)) allLook_nil), by rw [hT2], by omega⟩, by omega⟩)
      · -- else_t31
        obtain ⟨hov, _⟩ := hcase.resolve_left (fun h => c31 h.2.2.2.2)
        rw [if_neg hov] at hT2
        refine JC.skip ?_
        refine JC.reg ?_
        refine Seq.p rfl Ev.move ?_
        refine Seq.p rfl (by first | exact Ev.inc | exact Ev.add) ?_
        refine Seq.p rfl Ev.assign ?_
        refine Seq.nil ?_
        first
          | (have hov2 : M + x < moneyTop := hov
             exact ⟨i + 1, [bigL (.slice A28 (dg (M + x)).length c28) (dg (M + x)), .box b3 54 [.bool false, .slice A28 (dg (M + x)).length c28], .box b2 54 [.bool false, .slice none 0 0]], (by repeat (first | exact Part.nil _ | refine Part.at (by repeat (first | exact At.z | apply At.s)) ?_)), ⟨A28, c28, Has.mk (by repeat (first | refine Off.upd ?_ rfl | exact Off.mix | refine Off.mix2 ?_ rfl | exact Off.refl)) (allLook_cons (by repeat (first | exact Look.here | apply Look.there (hne := rfl) | exact Look.const | apply Look.mix rfl | exact Look.arg0 | apply Look.args | exact Look.func)) allLook_nil), by rw [hT2], by omega⟩, by omega⟩)
          | (have hov2 : ¬ M + x < moneyTop := hov
             exact ⟨i + 1, [bigL (.slice A (dg M).length c) (dg M), .box b3 54 [.bool false, .slice A (dg M).length c], .box b2 54 [.bool false, .slice none 0 0]], (by repeat (first | exact Part.nil _ | refine Part.at (by repeat (first | exact At.z | apply At.s)) ?_)), ⟨A, c, Has.mk (by repeat (first | refine Off.upd ?_ rfl | exact Off.mix | refine Off.mix2 ?_ rfl | exact Off.refl)) (allLook_cons (by repeat (first | exact Look.here | apply Look.there (hne := rfl) | exact Look.const | apply Look.mix rfl | exact Look.arg0 | apply Look.args | exact Look.func)) allLook_nil), by rw [hT2], by omega⟩, by omega⟩)
  · -- else_t11
    obtain rfl : i = es.length := by omega
    rw [List.take_of_length_le (by omega)]
    obtain ⟨M, hM⟩ : ∃ M, M = turnF (es.map Event.trd) := ⟨_, rfl⟩
    rw [← hM]
    refine JC.exit ?_ -- 0
    refine JC.rs ?_
    refine Seq.p rfl (Ev.ldBA (cs := [.bool false, .slice A (dg M).length c]) ag.bourseref01_Money) ?_
    refine Seq.storeTo (cs' := [.bool false, .slice A (dg M).length c]) sz.bourseref01_Money (hH := At.s (At.s At.z)) (hfit := Nat.le_of_ble_eq_true rfl) (hcs := rfl) (k := ?_)
    refine Seq.nil ?_
    refine JC.ret ?_
    show retQ _ _ _ _ _ _ _ _
    refine retB1 ag.bourseref01_Money (H' := [bigL (.slice A (dg M).length c) (dg M)]) (hp := Part.here (Part.nil _)) (hpost := ?_)
    exact ⟨A, c, rfl, rfl⟩
theorem dg_one : dg 1 = [1] := by rw [dg_step (by decide)]; show (1 % 4294967296) :: dg 0 = [1]; rw [dg_zero]
set_option maxHeartbeats 1000000 in
set_option maxRecDepth 100000 in
theorem refDoubled {w : World} {v : Value} {n : Nat} {b : Bool} (ha : RSl numEnc 1 w [] v (dg n)) (hl : n < moneyTop) : Spec Go.Proofs.Try.prog 61 #[v, .bool b] w [] (BigPost (n * 2 + if b = true then 1 else 0)) := by
  have hl1 := dg_len4 hl
  have hl2 : (dg (n + n)).length ≤ 4 := dg_len_le (k := 4) (by show n + n < 340282366920938463463374607431768211456; unfold moneyTop at hl; omega)
  refine Spec.enter (fn := Go.Proofs.Try.f61) (n := 14) [v, .bool b] Go.Proofs.Try.func61 (by kernel_rfl) rfl Go.Proofs.Try.ntmps61 Go.Proofs.Try.results61 rfl (Own.nil _) ?_
  refine JC.rs ?_
  refine Seq.p rfl Ev.assign ?_
  refine Seq.nil ?_
  refine JC.rs ?_
  refine Seq.p rfl Ev.move ?_
  refine Seq.p rfl Ev.move ?_
  refine Seq.call rfl (fun w' hw => refPlus (ha.up hw) (ha.up hw) (by omega) (by omega)) (Gs := []) (F := _) (by exact List.Perm.refl _) ?_
  rintro _ _ ⟨A8, c8, rfl, rfl⟩
  simp only [List.cons_append, List.nil_append]
  refine Seq.p rfl Ev.assign ?_
  refine Seq.nil ?_
  refine JC.seq ?_
  refine JC.rs ?_
  refine Seq.p rfl Ev.move ?_
  refine Seq.nil ?_
  first | refine JC.c (ht := fun c9 => ?_) (hf := fun c9 => ?_) | refine JC.cb (ht := fun c9 => ?_) (hf := fun c9 => ?_)
  · -- then_t9
    refine JC.reg ?_
    refine Seq.p rfl Ev.move ?_
    refine Seq.buildSlN [.int .u32 1] (hsl := sl.bourseref01_big) (hz := z.uint32) (k := ?_); intro b11
    refine Seq.re (fun w h => Upd.boxOwn h (n := 1) (size := 1) At.z rfl (by omega)) ?_
    refine Seq.call rfl (fun w' hw => refPlus (n := n + n) (m := 1) (RAt.up (RAt.own (enc := numEnc) (v := .slice A8 (dg (n + n)).length c8) (xs := dg (n + n)) (hs := by omega)) hw) (RAt.up (RAt.own (enc := numEnc) (v := .slice (some ⟨b11, 0, none⟩) 1 1) (xs := dg 1) (hcs := by rw [dg_one]; rfl) (hm := by rw [dg_one]; rfl) (hs := by rw [dg_one]; decide)) hw) (by omega) (by rw [dg_one]; decide)) (Gs := []) (F := _) (by exact List.Perm.refl _) ?_
    rintro _ _ ⟨A12, c12, rfl, rfl⟩
    simp only [List.cons_append, List.nil_append]
    refine Seq.p rfl Ev.assign ?_
    refine Seq.nil ?_
    refine JC.rs ?_
    refine Seq.p rfl Ev.move ?_
    refine Seq.p rfl Ev.assign ?_
    refine Seq.nil ?_
    refine JC.ret ?_
    show retQ _ _ _ _ _ _ _ _
    refine ret1 (H' := [bigL (.slice A12 (dg (n + n + 1)).length c12) (dg (n + n + 1))]) (hp := Part.here (Part.nil _)) (hpost := ?_)
    rw [if_pos c9, show n * 2 + 1 = n + n + 1 by omega]
    exact ⟨A12, c12, rfl, rfl⟩
  · -- else_t9
    refine JC.skip ?_
    refine JC.rs ?_
    refine Seq.p rfl Ev.move ?_
    refine Seq.p rfl Ev.assign ?_
    refine Seq.nil ?_
    refine JC.ret ?_
    show retQ _ _ _ _ _ _ _ _
    refine ret1 (hp := Part.refl _) (hpost := ?_)
    rw [if_neg (by rw [c9]; decide), show n * 2 + 0 = n + n by omega]
    exact ⟨A8, c8, rfl, rfl⟩
end Go.Rx
/- The reference's big numbers divided; a size's digits; an amount's text. -/
namespace Go.Rx
open Go Go.RowKit
set_option linter.unusedVariables false
set_option linter.unusedSimpArgs false
theorem pow32 (i : Nat) : 4294967296 ^ i = 2 ^ (32 * i) := by rw [Nat.pow_mul]
theorem bitx (y s : Nat) (hs : s < 32) : y % 2 ^ (s + 1) * 2 ^ (31 - s) < 4294967296 ∧ (2147483648 ≤ y % 2 ^ (s + 1) * 2 ^ (31 - s) ↔ y / 2 ^ s % 2 = 1) ∧ y % 2 ^ (s + 1) * 2 ^ (31 - s) % 2147483648 * 2 = y % 2 ^ s * 2 ^ (32 - s) := by
  have h1 : y % 2 ^ (s + 1) = y % 2 ^ s + 2 ^ s * (y / 2 ^ s % 2) := Nat.mod_pow_succ
  have h2 : 2 ^ s * 2 ^ (31 - s) = 2147483648 := by rw [← Nat.pow_add, show s + (31 - s) = 31 by omega]
  have h3 : 2 ^ (32 - s) = 2 ^ (31 - s) * 2 := by rw [← Nat.pow_succ]; congr 1; omega
  have h4 : y % 2 ^ s < 2 ^ s := Nat.mod_lt _ (Nat.two_pow_pos _)
  have h5 : (y % 2 ^ s) * 2 ^ (31 - s) < 2 ^ s * 2 ^ (31 - s) := Nat.mul_lt_mul_of_pos_right h4 (Nat.two_pow_pos _)
  have h6 : y / 2 ^ s % 2 < 2 := Nat.mod_lt _ (by decide)
  rw [h1, h3, Nat.add_mul, ← Nat.mul_assoc]
  generalize y / 2 ^ s % 2 = t at h6 ⊢
  have h7 : 2 ^ s * t * 2 ^ (31 - s) = t * 2147483648 := by rw [← h2, Nat.mul_comm (2 ^ s) t, Nat.mul_assoc]
  rw [h7]
  rw [h2] at h5
  generalize (y % 2 ^ s) * 2 ^ (31 - s) = x at h5 ⊢
  refine ⟨?_, ?_, ?_⟩
  · omega
  · omega
  · rcases (by omega : t = 0 ∨ t = 1) with rfl | rfl <;> omega
theorem look_int32 {e : Env} {x : Operand} {k : IntKind} {a b : Int} (h : Look e x (.int k a)) (hab : a = b) : Look e x (.int k b) := hab ▸ h
theorem cmp_ge {a b : Nat} : (0 ≤ cmpF a b) ↔ b ≤ a := by
  unfold cmpF
  split
  · omega
  · split <;> omega
set_option maxHeartbeats 4000000 in
set_option maxRecDepth 100000 in
theorem refDivided {w : World} {va vb : Value} {n m : Nat} (ha : RSl numEnc 1 w [] va (dg n)) (hb : RSl numEnc 1 w [] vb (dg m)) (hn : n < moneyTop) (hm : 0 < m) (hm2 : m < 4294967296) : Spec Go.Proofs.Try.prog 56 #[va, vb] w []
    (fun u H' => ∃ A c A' c', u = .tuple #[.slice A (dg (n / m)).length c, .slice A' (dg (n % m)).length c'] ∧ H' = [bigL (.slice A (dg (n / m)).length c) (dg (n / m)), bigL (.slice A' (dg (n % m)).length c') (dg (n % m))]) := by
  have hl := dg_len4 hn
  have hlt := dg_len_lt n
  have hd := dg_dig n
  rw [pow32] at hlt
  refine Spec.enter (fn := Go.Proofs.Try.f56) (n := 49) [va, vb] Go.Proofs.Try.func56 (by kernel_rfl) rfl Go.Proofs.Try.ntmps56 Go.Proofs.Try.results56 rfl (Own.nil _) ?_
  refine JC.rs ?_
  refine Seq.p rfl Ev.assign ?_
  refine Seq.p rfl Ev.assign ?_
  refine Seq.nil ?_
  refine JC.rs ?_
  refine Seq.buildSl (cs := []) (hsl := sl.bourseref01_big) (hz := z.uint32) (hcs := rfl) (k := ?_); intro b12
  refine Seq.re (fun w h => Upd.boxOwn h (n := 0) (size := 1) At.z rfl (by omega)) ?_
  refine Seq.buildSl (cs := []) (hsl := sl.bourseref01_big) (hz := z.uint32) (hcs := rfl) (k := ?_); intro b13
  refine Seq.re (fun w h => Upd.boxOwn h (n := 0) (size := 1) At.z rfl (by omega)) ?_
  refine Seq.p rfl Ev.assign ?_
  refine Seq.p rfl Ev.assign ?_
  refine Seq.nil ?_
  refine JC.seq ?_
  refine JC.rs ?_
  refine Seq.p rfl Ev.move ?_
  refine Seq.p rfl (Ev.lenSl sl.bourseref01_big (hr := ha.r)) ?_
  refine Seq.p rfl Ev.sub ?_
  refine Seq.p rfl Ev.assign ?_
  refine Seq.nil ?_
  refine JC.blk ?_
  have hz0 : n / 2 ^ (32 * (dg n).length) = 0 := Nat.div_eq_of_lt hlt
  refine JC.loop (α := Nat) (I := fun i e1 H1 => ∃ A c A' c', Has [6, 7, 8, 9, 10, 11, 17, 18, 19, 20, 21, 22, 23, 24, 25, 26, 27, 28, 29, 30, 31, 32, 33, 34, 35, 36, 37, 38, 39, 40, 41, 42, 43, 44, 45, 46] [(8, .int .i64 ((i : Int) - 1)), (6, .slice A (dg (n / 2 ^ (32 * i) / m)).length c), (7, .slice A' (dg (n / 2 ^ (32 * i) % m)).length c')] _ e1 ∧ H1 = [bigL (.slice A' (dg (n / 2 ^ (32 * i) % m)).length c') (dg (n / 2 ^ (32 * i) % m)), bigL (.slice A (dg (n / 2 ^ (32 * i) / m)).length c) (dg (n / 2 ^ (32 * i) / m))] ∧ i ≤ (dg n).length) (μ := fun i => i) (dg n).length ⟨some ⟨b12, 0, none⟩, 0, some ⟨b13, 0, none⟩, 0, Has.mk Off.refl (allLook_cons (by repeat (first | exact Look.here | apply Look.there (hne := rfl) | exact Look.const | apply Look.mix rfl | exact Look.arg0 | apply Look.args | exact Look.func)) (allLook_cons (by rw [hz0, Nat.zero_div, dg_zero]; exact (by repeat (first | exact Look.here | apply Look.there (hne := rfl) | exact Look.const | apply Look.mix rfl | exact Look.arg0 | apply Look.args | exact Look.func))) (allLook_cons (by rw [hz0, Nat.zero_mod, dg_zero]; exact (by repeat (first | exact Look.here | apply Look.there (hne := rfl) | exact Look.const | apply Look.mix rfl | exact Look.arg0 | apply Look.args | exact Look.func))) allLook_nil))), by rw [hz0, Nat.zero_div, Nat.zero_mod, dg_zero]; rfl, Nat.le_refl _⟩ ?_
  rintro i _ _ ⟨A, c, A', c', ⟨u, rfl⟩, rfl, hi⟩; dsimp only [setL]
  refine JC.seq ?_
  refine JC.rs ?_
  refine Seq.p rfl Ev.move ?_
  refine Seq.p rfl Ev.ge ?_
  refine Seq.nil ?_
  first | refine JC.c (ht := fun c18 => ?_) (hf := fun c18 => ?_) | refine JC.cb (ht := fun c18 => ?_) (hf := fun c18 => ?_)
  · -- then_t18
    obtain ⟨p, rfl⟩ : ∃ p, i = p + 1 := ⟨i - 1, by omega⟩
    have hpi : ((p + 1 : Nat) : Int) - 1 = (p : Int) := by omega
    rw [hpi]
    have hdp : (dg n)[p]! = n / 2 ^ (32 * p) % 2 ^ 32 * 2 ^ (32 - 32) := by rw [dg_get (by omega), pow32]; show _ = n / 2 ^ (32 * p) % 4294967296 * 1; rw [Nat.mul_one]
    refine JC.skip ?_
    refine JC.seq ?_
    refine JC.blk ?_
    refine JC.rs ?_
    refine Seq.p rfl Ev.move ?_
    refine Seq.p rfl Ev.move ?_
    refine Seq.p rfl (Ev.iaN sl.bourseref01_big (hr := ha.r)) ?_
    refine Seq.p rfl (Ev.as (v := .int .u32 (((dg n)[p]! : Nat) : Int)) (v' := .int .u32 ((n / 2 ^ (32 * p) % 2 ^ 32 * 2 ^ (32 - 32) : Nat) : Int)) (by rw [hdp]) (Ev.ldE1 sc.uint32 (i := p) (hr := ha.r))) ?_
    refine Seq.p rfl Ev.assign ?_
    refine Seq.nil ?_
    refine JC.rs ?_
    refine Seq.p rfl Ev.assign ?_
    refine Seq.nil ?_
    refine JC.blk ?_
    refine JC.loop (α := Nat) (I := fun r e1 H1 => ∃ A c A' c', Has [6, 7, 9, 10, 11, 25, 26, 27, 28, 29, 30, 31, 32, 33, 34, 35, 36, 37, 38, 39, 40, 41, 42, 43, 44, 45, 46] [(10, .int .i64 (32 - (r : Int))), (9, .int .u32 ((n / 2 ^ (32 * p) % 2 ^ r * 2 ^ (32 - r) : Nat) : Int)), (6, .slice A (dg (n / 2 ^ (32 * p + r) / m)).length c), (7, .slice A' (dg (n / 2 ^ (32 * p + r) % m)).length c')] _ e1 ∧ H1 = [bigL (.slice A' (dg (n / 2 ^ (32 * p + r) % m)).length c') (dg (n / 2 ^ (32 * p + r) % m)), bigL (.slice A (dg (n / 2 ^ (32 * p + r) / m)).length c) (dg (n / 2 ^ (32 * p + r) / m))] ∧ r ≤ 32) (μ := fun r => r) 32 ⟨A, c, A', c', Has.mk Off.refl (allLook_cons (by repeat (first | exact Look.here | apply Look.there (hne := rfl) | exact Look.const | apply Look.mix rfl | exact Look.arg0 | apply Look.args | exact Look.func)) (allLook_cons (by repeat (first | exact Look.here | apply Look.there (hne := rfl) | exact Look.const | apply Look.mix rfl | exact Look.arg0 | apply Look.args | exact Look.func)) (allLook_cons (by repeat (first | exact Look.here | apply Look.there (hne := rfl) | exact Look.const | apply Look.mix rfl | exact Look.arg0 | apply Look.args | exact Look.func)) (allLook_cons (by repeat (first | exact Look.here | apply Look.there (hne := rfl) | exact Look.const | apply Look.mix rfl | exact Look.arg0 | apply Look.args | exact Look.func)) allLook_nil)))), rfl, Nat.le_refl _⟩ ?_
    rintro r _ _ ⟨A, c, A', c', ⟨u2, rfl⟩, rfl, hr⟩; dsimp only [setL]
    refine JC.seq ?_
    refine JC.rs ?_
    refine Seq.p rfl Ev.move ?_
    refine Seq.p rfl Ev.lt ?_
    refine Seq.nil ?_
    first | refine JC.c (ht := fun c26 => ?_) (hf := fun c26 => ?_) | refine JC.cb (ht := fun c26 => ?_) (hf := fun c26 => ?_)
    · -- then_t26
      obtain ⟨s, rfl⟩ : ∃ s, r = s + 1 := ⟨r - 1, by omega⟩
      obtain ⟨hx1, hx2, hx3⟩ := bitx (n / 2 ^ (32 * p)) s (by omega)
      obtain ⟨hD1, hD2⟩ := div_bit n (32 * p + s) m hm
      have hT : n / 2 ^ (32 * p) / 2 ^ s % 2 = n / 2 ^ (32 * p + s) % 2 := by rw [Nat.div_div_eq_div_mul, ← Nat.pow_add]
      rw [hT] at hx2
      have h31 : 32 - (s + 1) = 31 - s := by omega
      rw [h31]
      have hRm : n / 2 ^ (32 * p + (s + 1)) % m < m := Nat.mod_lt _ hm
      have hQn : n / 2 ^ (32 * p + (s + 1)) / m ≤ n := Nat.le_trans (Nat.div_le_self _ _) (Nat.div_le_self _ _)
      obtain ⟨X, hX⟩ : ∃ X, X = n / 2 ^ (32 * p) % 2 ^ (s + 1) * 2 ^ (31 - s) := ⟨_, rfl⟩
      obtain ⟨Q, hQ⟩ : ∃ Q, Q = n / 2 ^ (32 * p + (s + 1)) / m := ⟨_, rfl⟩
      obtain ⟨R, hR⟩ : ∃ R, R = n / 2 ^ (32 * p + (s + 1)) % m := ⟨_, rfl⟩
      obtain ⟨T, hTe⟩ : ∃ T, T = n / 2 ^ (32 * p + s) % 2 := ⟨_, rfl⟩
      have hT2 : T < 2 := by rw [hTe]; exact Nat.mod_lt _ (by decide)
      rw [← Nat.add_assoc] at hQ hR hRm hQn
      rw [← hTe] at hx2
      rw [← hQ, ← hR, ← hTe] at hD1
      rw [← hR, ← hTe] at hD2
      rw [← hX] at hx1 hx2 hx3
      rw [← hR] at hRm
      rw [← hQ] at hQn
      rw [← Nat.add_assoc, ← hX, ← hQ, ← hR]
      have hbT : (if decide ((2147483648 : Int) ≤ (X : Int)) = true then 1 else 0) = T := by
        by_cases h : 2147483648 ≤ X
        · rw [if_pos (decide_eq_true (by omega))]; exact (hx2.1 h).symm
        · rw [if_neg (by simp; omega)]; have := fun h2 => h (hx2.2 h2); omega
      have hlR : (dg R).length ≤ 4 := dg_len4 (by unfold moneyTop; omega)
      have hlR2 : (dg (R * 2 + T)).length ≤ 4 := dg_len4 (by unfold moneyTop; omega)
      have hlQ : (dg Q).length ≤ 4 := dg_len4 (by omega)
      refine JC.skip ?_
      refine JC.seq ?_
      refine JC.blk ?_
      refine JC.rs ?_
      refine Seq.p rfl Ev.move ?_
      refine Seq.p rfl Ev.move ?_
      refine Seq.p rfl Ev.ge ?_
      refine Seq.call rfl (fun w' hw => refDoubled (RAt.up (RAt.own (enc := numEnc) (v := .slice A' (dg R).length c') (xs := dg R) (hs := by omega)) hw) (by unfold moneyTop; omega)) (Gs := []) (F := _) (by exact List.Perm.refl _) ?_
      rintro _ _ hP32
      rw [hbT] at hP32
      obtain ⟨A32, c32, rfl, rfl⟩ := hP32
      simp only [List.cons_append, List.nil_append]
      refine Seq.p rfl Ev.assign ?_
      refine Seq.nil ?_
      refine JC.rs ?_
      refine Seq.p rfl Ev.move ?_
      refine Seq.p rfl (Ev.as (v := .int .u32 ((X : Int) % 2147483648)) (v' := .int .u32 ((X % 2147483648 : Nat) : Int)) (by congr 1) Ev.rem) ?_
      refine Seq.p rfl (Ev.as (v := .int .u32 (IntKind.u32.wrap (((X % 2147483648 : Nat) : Int) * 2))) (v' := .int .u32 ((n / 2 ^ (32 * p) % 2 ^ s * 2 ^ (32 - s) : Nat) : Int)) (by rw [wrap_u32 _ (by omega), ← hx3, Int.natCast_mul]; rfl) Ev.mulW) ?_
      refine Seq.p rfl Ev.assign ?_
      refine Seq.nil ?_
      refine JC.rs ?_
      refine Seq.p rfl Ev.move ?_
      refine Seq.p rfl Ev.move ?_
      refine Seq.callP rfl (fun w' hw => refCompare (RAt.up (RAt.own (enc := numEnc) (v := .slice A32 (dg (R * 2 + T)).length c32) (xs := dg (R * 2 + T)) (hs := by omega)) hw) (hb.up hw)) ?_
      refine Seq.p rfl Ev.ge ?_
      refine Seq.p rfl Ev.assign ?_
      refine Seq.nil ?_
      refine JC.seq ?_
      refine JC.rs ?_
      refine Seq.p rfl Ev.move ?_
      refine Seq.nil ?_
      first | refine JC.c (ht := fun c40 => ?_) (hf := fun c40 => ?_) | refine JC.cb (ht := fun c40 => ?_) (hf := fun c40 => ?_)
      · -- then_t40
        have hfit : m ≤ R * 2 + T := cmp_ge.1 c40
        rw [if_pos hfit] at hD1 hD2
        have hb46 : (if decide (0 ≤ cmpF (R * 2 + T) m) = true then 1 else 0) = 1 := if_pos (decide_eq_true c40)
        refine JC.reg ?_
        refine Seq.p rfl Ev.move ?_
        refine Seq.p rfl Ev.move ?_
        refine Seq.call rfl (fun w' hw => refMinus (RAt.up (RAt.own (enc := numEnc) (v := .slice A32 (dg (R * 2 + T)).length c32) (xs := dg (R * 2 + T)) (hs := by omega)) hw) (hb.up hw) (by omega) hfit) (Gs := []) (F := _) (by exact List.Perm.refl _) ?_
        rintro _ _ hP43
        rw [← hD2] at hP43
        obtain ⟨A43, c43, rfl, rfl⟩ := hP43
        simp only [List.cons_append, List.nil_append]
        refine Seq.p rfl Ev.assign ?_
        refine Seq.nil ?_
        refine JC.reg ?_
        refine Seq.p rfl Ev.move ?_
        refine Seq.p rfl Ev.move ?_
        refine Seq.call rfl (fun w' hw => refDoubled (RAt.up (RAt.own (enc := numEnc) (v := .slice A (dg Q).length c) (xs := dg Q) (hs := by omega)) hw) (by omega)) (Gs := []) (F := _) (by exact List.Perm.refl _) ?_
        rintro _ _ hP46
        rw [hb46, ← hD1] at hP46
        obtain ⟨A46, c46, rfl, rfl⟩ := hP46
        simp only [List.cons_append, List.nil_append]
        refine Seq.p rfl Ev.assign ?_
        refine Seq.nil ?_
        refine JC.reg ?_
        refine Seq.p rfl Ev.move ?_
        refine Seq.p rfl (by first | exact Ev.inc | exact Ev.add) ?_
        refine Seq.p rfl Ev.assign ?_
        refine Seq.nil ?_
        first
          | (have hfit2 : m ≤ R * 2 + T := hfit
             exact ⟨s, [bigL (.slice A43 (dg (n / 2 ^ (32 * p + s) % m)).length c43) (dg (n / 2 ^ (32 * p + s) % m)), bigL (.slice A46 (dg (n / 2 ^ (32 * p + s) / m)).length c46) (dg (n / 2 ^ (32 * p + s) / m))], (by repeat (first | exact Part.nil _ | refine Part.at (by repeat (first | exact At.z | apply At.s)) ?_)), ⟨A46, c46, A43, c43, Has.mk (by repeat (first | refine Off.upd ?_ rfl | exact Off.mix | refine Off.mix2 ?_ rfl | exact Off.refl)) (allLook_cons (look_int32 (by repeat (first | exact Look.here | apply Look.there (hne := rfl) | exact Look.const | apply Look.mix rfl | exact Look.arg0 | apply Look.args | exact Look.func)) (by omega)) (allLook_cons (by repeat (first | exact Look.here | apply Look.there (hne := rfl) | exact Look.const | apply Look.mix rfl | exact Look.arg0 | apply Look.args | exact Look.func)) (allLook_cons (by repeat (first | exact Look.here | apply Look.there (hne := rfl) | exact Look.const | apply Look.mix rfl | exact Look.arg0 | apply Look.args | exact Look.func)) (allLook_cons (by repeat (first | exact Look.here | apply Look.there (hne := rfl) | exact Look.const | apply Look.mix rfl | exact Look.arg0 | apply Look.args | exact Look.func)) allLook_nil)))), rfl, by omega⟩, by omega⟩)
          | (have hfit2 : ¬ m ≤ R * 2 + T := hfit
             exact ⟨s, [bigL (.slice A32 (dg (n / 2 ^ (32 * p + s) % m)).length c32) (dg (n / 2 ^ (32 * p + s) % m)), bigL (.slice A46 (dg (n / 2 ^ (32 * p + s) / m)).length c46) (dg (n / 2 ^ (32 * p + s) / m))], (by rw [hD2]; repeat (first | exact Part.nil _ | refine Part.at (by repeat (first | exact At.z | apply At.s)) ?_)), ⟨A46, c46, A32, c32, Has.mk (by repeat (first | refine Off.upd ?_ rfl | exact Off.mix | refine Off.mix2 ?_ rfl | exact Off.refl)) (allLook_cons (look_int32 (by repeat (first | exact Look.here | apply Look.there (hne := rfl) | exact Look.const | apply Look.mix rfl | exact Look.arg0 | apply Look.args | exact Look.func)) (by omega)) (allLook_cons (by repeat (first | exact Look.here | apply Look.there (hne := rfl) | exact Look.const | apply Look.mix rfl | exact Look.arg0 | apply Look.args | exact Look.func)) (allLook_cons (by repeat (first | exact Look.here | apply Look.there (hne := rfl) | exact Look.const | apply Look.mix rfl | exact Look.arg0 | apply Look.args | exact Look.func)) (allLook_cons (by rw [hD2]; exact (by repeat (first | exact Look.here | apply Look.there (hne := rfl) | exact Look.const | apply Look.mix rfl | exact Look.arg0 | apply Look.args | exact Look.func))) allLook_nil)))), rfl, by omega⟩, by omega⟩)
      · -- else_t40
        have hfit : ¬ m ≤ R * 2 + T := fun h => c40 (cmp_ge.2 h)
        rw [if_neg hfit] at hD1 hD2
        rw [Nat.sub_zero] at hD2
        have hb46 : (if decide (0 ≤ cmpF (R * 2 + T) m) = true then 1 else 0) = 0 := if_neg (by simp; exact Int.not_le.1 c40)
        refine JC.skip ?_
        refine JC.reg ?_
        refine Seq.p rfl Ev.move ?_
        refine Seq.p rfl Ev.move ?_
        refine Seq.call rfl (fun w' hw => refDoubled (RAt.up (RAt.own (enc := numEnc) (v := .slice A (dg Q).length c) (xs := dg Q) (hs := by omega)) hw) (by omega)) (Gs := []) (F := _) (by exact List.Perm.refl _) ?_
        rintro _ _ hP46
        rw [hb46, ← hD1] at hP46
        obtain ⟨A46, c46, rfl, rfl⟩ := hP46
        simp only [List.cons_append, List.nil_append]
        refine Seq.p rfl Ev.assign ?_
        refine Seq.nil ?_
        refine JC.reg ?_
        refine Seq.p rfl Ev.move ?_
        refine Seq.p rfl (by first | exact Ev.inc | exact Ev.add) ?_
        refine Seq.p rfl Ev.assign ?_
        refine Seq.nil ?_
        first
          | (have hfit2 : m ≤ R * 2 + T := hfit
             exact ⟨s, [bigL (.slice A43 (dg (n / 2 ^ (32 * p + s) % m)).length c43) (dg (n / 2 ^ (32 * p + s) % m)), bigL (.slice A46 (dg (n / 2 ^ (32 * p + s) / m)).length c46) (dg (n / 2 ^ (32 * p + s) / m))], (by repeat (first | exact Part.nil _ | refine Part.at (by repeat (first | exact At.z | apply At.s)) ?_)), ⟨A46, c46, A43, c43, Has.mk (by repeat (first | refine Off.upd ?_ rfl | exact Off.mix | refine Off.mix2 ?_ rfl | exact Off.refl)) (allLook_cons (look_int32 (by repeat (first | exact Look.here | apply Look.there (hne := rfl) | exact Look.const | apply Look.mix rfl | exact Look.arg0 | apply Look.args | exact Look.func)) (by omega)) (allLook_cons (by repeat (first | exact Look.here | apply Look.there (hne := rfl) | exact Look.const | apply Look.mix rfl | exact Look.arg0 | apply Look.args | exact Look.func)) (allLook_cons (by repeat (first | exact Look.here | apply Look.there (hne := rfl) | exact Look.const | apply Look.mix rfl | exact Look.arg0 | apply Look.args | exact Look.func)) (allLook_cons (by repeat (first | exact Look.here | apply Look.there (hne := rfl) | exact Look.const | apply Look.mix rfl | exact Look.arg0 | apply Look.args | exact Look.func)) allLook_nil)))), rfl, by omega⟩, by omega⟩)
          | (have hfit2 : ¬ m ≤ R * 2 + T := hfit
             exact ⟨s, [bigL (.slice A32 (dg (n / 2 ^ (32 * p + s) % m)).length c32) (dg (n / 2 ^ (32 * p + s) % m)), bigL (.slice A46 (dg (n / 2 ^ (32 * p + s) / m)).length c46) (dg (n / 2 ^ (32 * p + s) / m))], (by rw [hD2]; repeat (first | exact Part.nil _ | refine Part.at (by repeat (first | exact At.z | apply At.s)) ?_)), ⟨A46, c46, A32, c32, Has.mk (by repeat (first | refine Off.upd ?_ rfl | exact Off.mix | refine Off.mix2 ?_ rfl | exact Off.refl)) (allLook_cons (look_int32 (by repeat (first | exact Look.here | apply Look.there (hne := rfl) | exact Look.const | apply Look.mix rfl | exact Look.arg0 | apply Look.args | exact Look.func)) (by omega)) (allLook_cons (by repeat (first | exact Look.here | apply Look.there (hne := rfl) | exact Look.const | apply Look.mix rfl | exact Look.arg0 | apply Look.args | exact Look.func)) (allLook_cons (by repeat (first | exact Look.here | apply Look.there (hne := rfl) | exact Look.const | apply Look.mix rfl | exact Look.arg0 | apply Look.args | exact Look.func)) (allLook_cons (by rw [hD2]; exact (by repeat (first | exact Look.here | apply Look.there (hne := rfl) | exact Look.const | apply Look.mix rfl | exact Look.arg0 | apply Look.args | exact Look.func))) allLook_nil)))), rfl, by omega⟩, by omega⟩)
    · -- else_t26
      obtain rfl : r = 0 := by omega
      refine JC.exit ?_ -- 2
      refine JC.reg ?_
      refine Seq.p rfl Ev.move ?_
      refine Seq.p rfl Ev.sub ?_
      refine Seq.p rfl Ev.assign ?_
      refine Seq.nil ?_
      exact ⟨p, _, Part.refl _, ⟨A, c, A', c', Has.mk (by repeat (first | refine Off.upd ?_ rfl | exact Off.mix | refine Off.mix2 ?_ rfl | exact Off.refl)) (allLook_cons (by repeat (first | exact Look.here | apply Look.there (hne := rfl) | exact Look.const | apply Look.mix rfl | exact Look.arg0 | apply Look.args | exact Look.func)) (allLook_cons (by repeat (first | exact Look.here | apply Look.there (hne := rfl) | exact Look.const | apply Look.mix rfl | exact Look.arg0 | apply Look.args | exact Look.func)) (allLook_cons (by repeat (first | exact Look.here | apply Look.there (hne := rfl) | exact Look.const | apply Look.mix rfl | exact Look.arg0 | apply Look.args | exact Look.func)) allLook_nil))), rfl, by omega⟩, by omega⟩
  · -- else_t18
    obtain rfl : i = 0 := by omega
    rw [Nat.mul_zero, Nat.pow_zero, Nat.div_one]
    refine JC.exit ?_ -- 0
    refine JC.rs ?_
    refine Seq.p rfl Ev.move ?_
    refine Seq.p rfl Ev.move ?_
    refine Seq.p rfl Ev.assign ?_
    refine Seq.p rfl Ev.assign ?_
    refine Seq.nil ?_
    refine JC.ret ?_
    show retQ _ _ _ _ _ _ _ _
    refine ret2 (H' := [bigL (.slice A (dg (n / m)).length c) (dg (n / m)), bigL (.slice A' (dg (n % m)).length c') (dg (n % m))]) (hp := (by repeat (first | exact Part.nil _ | refine Part.at (by repeat (first | exact At.z | apply At.s)) ?_))) (hpost := ?_)
    exact ⟨A, c, A', c', rfl, rfl⟩
end Go.Rx
/- Texts as lists of bytes. -/
namespace Go.Rx
open Go Go.RowKit
set_option linter.unusedVariables false
theorem strOf_size (l : List Int) : (strOf l).size = l.length := by
  have h3 : (strOf l).size = (strOf l).data.toList.length := by simp
  rw [h3, strOf_toList, List.length_map]
theorem ba_ext {a b : ByteArray} (h : a.data.toList = b.data.toList) : a = b := by
  apply ByteArray.ext
  exact Array.ext' h
theorem strOf_app (a b : List Int) : strOf (a ++ b) = strOf a ++ strOf b := ba_ext (by rw [strOf_toList, List.map_append]; simp [strOf_toList])
theorem strOf_cut (l : List Int) (i j : Nat) : (strOf l).extract i j = strOf ((l.take j).drop i) := ba_ext (by
  rw [strOf_toList, ByteArray.data_extract, Array.toList_extract, List.extract_eq_take_drop, strOf_toList, List.map_drop, List.map_take, List.drop_take])
end Go.Rx
/- An amount's text, by the document. -/
namespace Go.Rx
open Go Go.RowKit
set_option linter.unusedVariables false
set_option linter.unusedSimpArgs false
def rdig (n k : Nat) : List Int := (List.range k).map fun i => 48 + ((n / 10 ^ i % 10 : Nat) : Int)
theorem rdig_len (n k : Nat) : (rdig n k).length = k := by simp [rdig]
theorem rdig_snoc (n k : Nat) : rdig n (k + 1) = rdig n k ++ [48 + ((n / 10 ^ k % 10 : Nat) : Int)] := by
  unfold rdig
  rw [List.range_succ, List.map_append]
  rfl
def kF (n : Nat) : Nat := if n < 1000 then 3 else kF (n / 10) + 1
termination_by n
decreasing_by omega
theorem div_pow_mono {n i j : Nat} (h : i ≤ j) : n / 10 ^ j ≤ n / 10 ^ i := Nat.div_le_div_left (Nat.pow_le_pow_right (by decide) h) (Nat.pow_pos (by decide))
theorem kF_stop (n : Nat) : n / 10 ^ kF n = 0 ∧ 3 ≤ kF n ∧ (kF n = 3 ∨ n / 10 ^ (kF n - 1) ≠ 0) := by
  induction n using Nat.strongRecOn with
  | _ n ih =>
    rw [kF]
    by_cases h : n < 1000
    · rw [if_pos h]
      exact ⟨Nat.div_eq_of_lt h, Nat.le_refl _, .inl rfl⟩
    · rw [if_neg h]
      obtain ⟨h1, h2, h3⟩ := ih (n / 10) (by omega)
      refine ⟨?_, by omega, .inr ?_⟩
      · rw [Nat.pow_succ, Nat.mul_comm, ← Nat.div_div_eq_div_mul]; exact h1
      · rw [Nat.add_sub_cancel]
        have e : kF (n / 10) = kF (n / 10) - 1 + 1 := by omega
        rw [e, Nat.pow_succ, Nat.mul_comm, ← Nat.div_div_eq_div_mul]
        rcases h3 with h3 | h3
        · rw [h3]
          show n / 10 / 100 ≠ 0
          omega
        · exact h3
theorem kF_unique {n k : Nat} (h1 : n / 10 ^ k = 0) (h2 : 3 ≤ k) (h3 : k = 3 ∨ n / 10 ^ (k - 1) ≠ 0) : k = kF n := by
  obtain ⟨g1, g2, g3⟩ := kF_stop n
  rcases Nat.lt_trichotomy k (kF n) with h | h | h
  · rcases g3 with g3 | g3
    · omega
    · have := div_pow_mono (n := n) (show k ≤ kF n - 1 by omega)
      exact absurd (Nat.le_zero.1 (h1 ▸ this)) g3
  · exact h
  · rcases h3 with h3 | h3
    · omega
    · have := div_pow_mono (n := n) (show kF n ≤ k - 1 by omega)
      exact absurd (Nat.le_zero.1 (g1 ▸ this)) h3
def textL (n : Nat) : List Int := ((rdig n (kF n)).drop 2).reverse ++ [46] ++ ((rdig n (kF n)).take 2).reverse
theorem ten_pow {n k : Nat} (hn : n < moneyTop) (h : n / 10 ^ k ≠ 0) : k < 39 := by
  rcases Nat.lt_or_ge k 39 with h1 | h1
  · exact h1
  · exfalso
    have h2 := div_pow_mono (n := n) h1
    have h3 : n / 10 ^ 39 = 0 := Nat.div_eq_of_lt (by show n < 1000000000000000000000000000000000000000; unfold moneyTop at hn; omega)
    exact h (Nat.le_zero.1 (h3 ▸ h2))
theorem dg_small {d : Nat} (h : d < 4294967296) : dg d = if d = 0 then [] else [d] := by
  by_cases h0 : d = 0
  · rw [if_pos h0, h0, dg_zero]
  · rw [if_neg h0, dg_step h0, show d / 4294967296 = 0 by omega, dg_zero, show d % 4294967296 = d by omega]
theorem dg_pos (a : Nat) : (decide (0 < ((dg a).length : Int))) = decide (a ≠ 0) := by
  by_cases h : a = 0
  · subst h; rw [dg_zero]; rfl
  · have := (dg_len_ge h).2
    rw [decide_eq_true h, decide_eq_true (by omega)]
theorem RAt.wide {α : Type} [Inhabited α] {enc : α → List Value} {sz : Nat} {w0 : World} {Cs F H : List Chunk} {v : Value} {xs : List α} (h : RAt w0 Cs F enc sz v xs) (hp : Part F H) : RAt w0 Cs H enc sz v xs := fun w hw => h w (hw.part hp)
section
variable {P : Program} {w0 : World} {Cs H : List Chunk} {e : Env} {ty : TypeId} {x : Operand}
theorem Ev.moveZ {k : IntKind} {a b : Int} (hx : Look e x (.int k a) := by repeat (first | exact Look.here | apply Look.there (hne := rfl) | exact Look.const | apply Look.mix rfl | exact Look.arg0 | apply Look.args | exact Look.func)) (h : a = b := by omega) : Ev P w0 Cs H e (.move x) ty (.int k b) := h ▸ Ev.move hx
end
set_option maxHeartbeats 4000000 in
set_option maxRecDepth 100000 in
theorem refDigits {w : World} {va : Value} {n : Nat} (ha : RSl numEnc 1 w [] va (dg n)) (hn : n < moneyTop) : Spec Go.Proofs.Try.prog 42 #[va] w [] (fun u _ => u = .string (strOf (rdig n (kF n)).reverse)) := by
  refine Spec.enter (fn := Go.Proofs.Try.f42) (n := 37) [va] Go.Proofs.Try.func42 (by kernel_rfl) rfl Go.Proofs.Try.ntmps42 Go.Proofs.Try.results42 rfl (Own.nil _) ?_
  refine JC.rs ?_
  refine Seq.p rfl Ev.assign ?_
  refine Seq.nil ?_
  refine JC.rs ?_
  refine Seq.p rfl Ev.assign ?_
  refine Seq.nil ?_
  refine JC.seq ?_
  refine JC.blk ?_
  refine JC.loop (α := Nat) (I := fun k e1 H1 => ∃ vb, Has [0, 3, 4, 5, 6, 7, 8, 9, 10, 11, 12, 13, 14, 15, 16, 17, 18, 19, 20, 21, 22, 23, 24, 25, 26, 27, 28, 29, 30, 31, 32, 33, 34, 35] [(0, vb), (3, .string (strOf (rdig n k).reverse))] _ e1 ∧ RAt w [] H1 numEnc 1 vb (dg (n / 10 ^ k)) ∧ (k ≤ 3 ∨ n / 10 ^ (k - 1) ≠ 0) ∧ k ≤ 39) (μ := fun k => 40 - k) 0 ⟨va, Has.mk Off.refl (allLook_cons (by repeat (first | exact Look.here | apply Look.there (hne := rfl) | exact Look.const | apply Look.mix rfl | exact Look.arg0 | apply Look.args | exact Look.func)) (allLook_cons (by repeat (first | exact Look.here | apply Look.there (hne := rfl) | exact Look.const | apply Look.mix rfl | exact Look.arg0 | apply Look.args | exact Look.func)) allLook_nil)), by rw [Nat.pow_zero, Nat.div_one]; exact ha.r, .inl (by decide), by decide⟩ ?_
  rintro k _ HF ⟨vb, ⟨u, rfl⟩, hra, hk3, hk39⟩; dsimp only [setL]
  have hss : (strOf (rdig n k).reverse).size = k := by rw [strOf_size, List.length_reverse, rdig_len]
  have han : n / 10 ^ k < moneyTop := Nat.lt_of_le_of_lt (Nat.div_le_self _ _) hn
  have hdiv : n / 10 ^ k / 10 = n / 10 ^ (k + 1) := by rw [Nat.div_div_eq_div_mul, Nat.pow_succ]
  have hl4 := dg_len4 han
  obtain ⟨a, hae⟩ : ∃ a, a = n / 10 ^ k := ⟨_, rfl⟩
  rw [← hae] at hra han hdiv hl4
  have hsn := rdig_snoc n k
  rw [← hae] at hsn
  refine JC.seq ?_
  refine JC.rs ?_
  refine Seq.p rfl Ev.move ?_
  refine Seq.p rfl (Ev.lenSl sl.bourseref01_big (hr := hra)) ?_
  refine Seq.p rfl Ev.gt ?_
  refine Seq.p rfl Ev.move ?_
  refine Seq.orG (D := [10, 11, 12, 13, 14]) (d := 10) (t := 14) (k := 4) (hn := fun h10 => ?_) (hx := ?_)
  · repeat (first | refine Seq.gn rfl rfl rfl rfl ?_ | refine Seq.gu rfl rfl rfl ?_)
    refine Seq.p rfl Ev.pickT ?_
    exact Seq.nil ⟨rfl, (by repeat (first | with_reducible exact Off.refl | refine Off.upd ?_ rfl | exact Off.mix | refine Off.mix2 ?_ rfl)), Look.here⟩
  apply Exists.intro
  refine ⟨fun h10 => ?_, fun u14 => ?_⟩
  · try simp only [decide_eq_true_eq, decide_eq_false_iff_not, Bool.and_eq_true, Bool.or_eq_true, Bool.not_eq_true', Bool.not_eq_false', Bool.or_eq_false_iff, Bool.and_eq_false_imp] at h10
    refine Seq.gy rfl rfl rfl ?_
    refine Seq.p rfl Ev.move ?_
    refine Seq.gy rfl rfl rfl ?_
    refine Seq.p rfl (Ev.lenStr st.string) ?_
    refine Seq.gy rfl rfl rfl ?_
    refine Seq.p rfl Ev.lt ?_
    refine Seq.p rfl Ev.pickF ?_
    exact Seq.nil ⟨rfl, (by repeat (first | with_reducible exact Off.refl | refine Off.upd ?_ rfl | exact Off.mix | refine Off.mix2 ?_ rfl)), Look.here⟩
  refine Seq.nil ?_
  first | refine JC.c (ht := fun c14 => ?_) (hf := fun c14 => ?_) | refine JC.cb (ht := fun c14 => ?_) (hf := fun c14 => ?_)
  · -- then_t14
    rw [dg_pos, hss] at c14
    have hk2 : k + 1 ≤ 39 := by
      simp only [Bool.or_eq_true, decide_eq_true_eq] at c14
      rcases c14 with h | h
      · have := ten_pow (n := n) (k := k) hn (by rw [← hae]; exact h)
        omega
      · omega
    have hd10 : a % 10 < 10 := Nat.mod_lt _ (by decide)
    have hq4 := dg_len4 (n := a / 10) (by omega)
    have hr4 := dg_len4 (n := a % 10) (by unfold moneyTop; omega)
    have hds := dg_small (d := a % 10) (by omega)
    refine JC.skip ?_
    refine JC.blk ?_
    refine JC.rs ?_
    refine Seq.p rfl Ev.move ?_
    refine Seq.buildSlN [.int .u32 10] (hsl := sl.bourseref01_big) (hz := z.uint32) (k := ?_); intro b17
    refine Seq.re (fun w h => Upd.boxOwn h (n := 1) (size := 1) At.z rfl (by omega)) ?_
    refine Seq.call rfl (fun w' hw => refDivided (n := a) (m := 10) ((hra.wide (Part.skip (Part.refl _))).up hw) (RAt.up (RAt.own (enc := numEnc) (v := .slice (some ⟨b17, 0, none⟩) 1 1) (xs := dg 10) (hcs := by rw [dg_small (by decide)]; rfl) (hm := by rw [dg_small (by decide)]; rfl) (hs := by rw [dg_small (by decide)]; decide)) hw) han (by decide) (by decide)) (Gs := []) (F := _) (by exact List.Perm.refl _) ?_
    rintro _ _ ⟨A18, c18, A19, c19, rfl, rfl⟩
    simp only [List.cons_append, List.nil_append]
    refine Seq.p rfl Ev.move ?_
    refine Seq.p rfl Ev.extract ?_
    refine Seq.p rfl Ev.extract ?_
    refine Seq.p rfl Ev.assign ?_
    refine Seq.p rfl Ev.assign ?_
    refine Seq.nil ?_
    refine JC.rs ?_
    refine Seq.p rfl Ev.assign ?_
    refine Seq.nil ?_
    refine JC.seq ?_
    refine JC.rs ?_
    refine Seq.p rfl Ev.move ?_
    refine Seq.p rfl (Ev.lenSl sl.bourseref01_big (hr := RAt.own (enc := numEnc) (v := .slice A19 (dg (a % 10)).length c19) (xs := dg (a % 10)) (hs := by omega))) ?_
    refine Seq.p rfl Ev.gt ?_
    refine Seq.nil ?_
    first | refine JC.c (ht := fun c23 => ?_) (hf := fun c23 => ?_) | refine JC.cb (ht := fun c23 => ?_) (hf := fun c23 => ?_)
    · -- then_t23
      have hne : a % 10 ≠ 0 := fun h => by rw [h, dg_zero] at c23; simp at c23
      rw [if_neg hne] at hds
      have hg0 : (dg (a % 10))[0]! = a % 10 := by rw [hds]; rfl
      have hgl : 0 < (dg (a % 10)).length := by rw [hds]; exact Nat.zero_lt_one
      refine JC.reg ?_
      refine Seq.p rfl Ev.move ?_
      refine Seq.p rfl Ev.move ?_
      refine Seq.p rfl (Ev.iaN sl.bourseref01_big (i := 0) (hr := RAt.own (enc := numEnc) (v := .slice A19 (dg (a % 10)).length c19) (xs := dg (a % 10)) (hs := by omega))) ?_
      refine Seq.p rfl (Ev.as (v := .int .u32 (((dg (a % 10))[0]! : Nat) : Int)) (v' := .int .u32 ((a % 10 : Nat) : Int)) (by rw [hg0]) (Ev.ldE1 sc.uint32 (i := 0) (hr := RAt.own (enc := numEnc) (v := .slice A19 (dg (a % 10)).length c19) (xs := dg (a % 10)) (hs := by omega)))) ?_
      refine Seq.p rfl (Ev.convU8 it.uint32 it.uint8) ?_
      refine Seq.p rfl (Ev.as (v := .int .u8 (IntKind.u8.wrap (48 + ((a % 10 : Nat) : Int)))) (v' := .int .u8 (48 + ((a % 10 : Nat) : Int))) (by rw [wrap_u8 _ (by omega)]) Ev.addW) ?_
      refine Seq.p rfl Ev.assign ?_
      refine Seq.nil ?_
      refine JC.rs ?_
      refine Seq.p rfl (Ev.moveZ (b := 48 + ((a % 10 : Nat) : Int))) ?_
      refine Seq.buildSlN [.int .u8 (48 + ((a % 10 : Nat) : Int))] (hsl := sl.sl_uint8) (hz := z.uint8) (k := ?_); intro b31
      refine Seq.re (fun w h => Upd.boxOwn h (n := 1) (size := 1) At.z rfl (by omega)) ?_
      refine Seq.p rfl (Ev.strOf (l := [48 + ((a % 10 : Nat) : Int)]) sl.sl_uint8 it.uint8 st.string (hr := RAt.own (enc := byteEnc) (xs := [48 + ((a % 10 : Nat) : Int)]) (hs := by simp))) ?_
      refine Seq.p rfl Ev.move ?_
      refine Seq.p rfl (Ev.addStr (h := by rw [hss, strOf_size]; show 1 + k ≤ _; omega)) ?_
      rw [← strOf_app]
      refine Seq.p rfl Ev.assign ?_
      refine Seq.nil ?_
      refine JC.reg ?_
      refine Seq.p rfl Ev.move ?_
      refine Seq.p rfl Ev.assign ?_
      refine Seq.nil ?_
      refine ⟨k + 1, [bigL (.slice A18 (dg (a / 10)).length c18) (dg (a / 10))], (by repeat (first | exact Part.nil _ | refine Part.at (by repeat (first | exact At.z | apply At.s)) ?_)), ⟨.slice A18 (dg (a / 10)).length c18, Has.mk (by repeat (first | refine Off.upd ?_ rfl | exact Off.mix | refine Off.mix2 ?_ rfl | exact Off.refl)) (allLook_cons (by repeat (first | exact Look.here | apply Look.there (hne := rfl) | exact Look.const | apply Look.mix rfl | exact Look.arg0 | apply Look.args | exact Look.func)) (allLook_cons (by rw [hsn, List.reverse_append]; exact (by repeat (first | exact Look.here | apply Look.there (hne := rfl) | exact Look.const | apply Look.mix rfl | exact Look.arg0 | apply Look.args | exact Look.func))) allLook_nil)), ?_, ?_, hk2⟩, by omega⟩
      · rw [← hdiv]; exact RAt.own (hs := by omega)
      · rcases Nat.lt_or_ge k 3 with h | h
        · left; omega
        · right
          rw [Nat.add_sub_cancel, ← hae]
          simp only [Bool.or_eq_true, decide_eq_true_eq] at c14
          omega
    · -- else_t23
      have hne : a % 10 = 0 := by
        rcases Nat.eq_zero_or_pos (a % 10) with h | h
        · exact h
        · exact absurd (by rw [hds, if_neg (by omega)]; show (0 : Int) < ((1 : Nat) : Int); decide) c23
      refine JC.skip ?_
      refine JC.rs ?_
      refine Seq.p rfl (Ev.moveZ (b := 48 + ((a % 10 : Nat) : Int))) ?_
      refine Seq.buildSlN [.int .u8 (48 + ((a % 10 : Nat) : Int))] (hsl := sl.sl_uint8) (hz := z.uint8) (k := ?_); intro b31
      refine Seq.re (fun w h => Upd.boxOwn h (n := 1) (size := 1) At.z rfl (by omega)) ?_
      refine Seq.p rfl (Ev.strOf (l := [48 + ((a % 10 : Nat) : Int)]) sl.sl_uint8 it.uint8 st.string (hr := RAt.own (enc := byteEnc) (xs := [48 + ((a % 10 : Nat) : Int)]) (hs := by simp))) ?_
      refine Seq.p rfl Ev.move ?_
      refine Seq.p rfl (Ev.addStr (h := by rw [hss, strOf_size]; show 1 + k ≤ _; omega)) ?_
      rw [← strOf_app]
      refine Seq.p rfl Ev.assign ?_
      refine Seq.nil ?_
      refine JC.reg ?_
      refine Seq.p rfl Ev.move ?_
      refine Seq.p rfl Ev.assign ?_
      refine Seq.nil ?_
      refine ⟨k + 1, [bigL (.slice A18 (dg (a / 10)).length c18) (dg (a / 10))], (by repeat (first | exact Part.nil _ | refine Part.at (by repeat (first | exact At.z | apply At.s)) ?_)), ⟨.slice A18 (dg (a / 10)).length c18, Has.mk (by repeat (first | refine Off.upd ?_ rfl | exact Off.mix | refine Off.mix2 ?_ rfl | exact Off.refl)) (allLook_cons (by repeat (first | exact Look.here | apply Look.there (hne := rfl) | exact Look.const | apply Look.mix rfl | exact Look.arg0 | apply Look.args | exact Look.func)) (allLook_cons (by rw [hsn, List.reverse_append]; exact (by repeat (first | exact Look.here | apply Look.there (hne := rfl) | exact Look.const | apply Look.mix rfl | exact Look.arg0 | apply Look.args | exact Look.func))) allLook_nil)), ?_, ?_, hk2⟩, by omega⟩
      · rw [← hdiv]; exact RAt.own (hs := by omega)
      · rcases Nat.lt_or_ge k 3 with h | h
        · left; omega
        · right
          rw [Nat.add_sub_cancel, ← hae]
          simp only [Bool.or_eq_true, decide_eq_true_eq] at c14
          omega
  · -- else_t14
    rw [dg_pos, hss] at c14
    simp only [Bool.or_eq_false_iff, decide_eq_false_iff_not, Classical.not_not] at c14
    have hke : k = kF n := kF_unique (by rw [← hae]; exact c14.1) (by omega) (by omega)
    subst hke
    refine JC.exit ?_ -- 0
    refine JC.rs ?_
    refine Seq.p rfl Ev.move ?_
    refine Seq.p rfl Ev.assign ?_
    refine Seq.nil ?_
    refine JC.ret ?_
    show retQ _ _ _ _ _ _ _ _
    refine ret1 (hp := Part.nil _) (hpost := ?_)
    rfl
set_option maxHeartbeats 1000000 in
set_option maxRecDepth 100000 in
theorem refText01 {w : World} {v : Value} {n : Nat} (ha : RSl numEnc 1 w [] v (dg n)) (hn : n < moneyTop) : Spec Go.Proofs.Try.prog 19 #[.agg #[.bool false, v]] w [] (fun u _ => u = .string (strOf (textL n))) := by
  obtain ⟨hk1, hk2, hk3⟩ := kF_stop n
  have hk39 : kF n ≤ 39 := by
    rcases hk3 with h | h
    · omega
    · have := ten_pow hn h; omega
  obtain ⟨A0, c0, hv, _⟩ := ha.shape
  have hsl : ((rdig n (kF n)).reverse).length = kF n := by rw [List.length_reverse, rdig_len]
  have hss : (strOf (rdig n (kF n)).reverse).size = kF n := by rw [strOf_size, hsl]
  have hD := fun w' => refDigits (w := w') (va := v) (n := n)
  have e1 : (rdig n (kF n)).reverse.take (kF n - 2) = ((rdig n (kF n)).drop 2).reverse := by
    rw [List.take_reverse, rdig_len, show kF n - (kF n - 2) = 2 by omega]
  have e2 : (rdig n (kF n)).reverse.drop (kF n - 2) = ((rdig n (kF n)).take 2).reverse := by
    rw [List.drop_reverse, rdig_len, show kF n - (kF n - 2) = 2 by omega]
  obtain ⟨S, hS⟩ : ∃ S, S = (rdig n (kF n)).reverse := ⟨_, rfl⟩
  rw [← hS] at hsl hss e1 e2 hD
  obtain ⟨k, hk⟩ : ∃ k, k = kF n := ⟨_, rfl⟩
  have htl : textL n = S.take (k - 2) ++ [46] ++ S.drop (k - 2) := by rw [hk, e1, e2]; rfl
  rw [← hk] at hk2 hk39 hsl hss
  rw [htl]
  subst hv
  refine Spec.enter (fn := Go.Proofs.Try.f19) (n := 25) [.agg #[.bool false, .slice A0 (dg n).length c0]] Go.Proofs.Try.func19 (by kernel_rfl) rfl Go.Proofs.Try.ntmps19 Go.Proofs.Try.results19 rfl (Own.nil _) ?_
  refine JC.rs ?_
  refine Seq.box (cs := [_, _]) (k := ?_); intro b1
  refine Seq.p rfl Ev.assign ?_
  refine Seq.nil ?_
  refine JC.rs ?_
  refine Seq.p rfl (Ev.faB fd.bourseref01_Money_1) ?_
  refine Seq.p rfl (Ev.ldB sc.bourseref01_big) ?_
  refine Seq.callP rfl (fun w' hw => hD w' (ha.up hw) hn) ?_
  refine Seq.p rfl Ev.assign ?_
  refine Seq.nil ?_
  refine JC.qs mixed (by kernel_rfl) ?_
  refine Qui.p rfl Ev.move ?_
  refine Qui.p rfl Ev.move ?_
  refine Qui.p rfl (Ev.lenStr st.string) ?_
  refine Qui.p rfl (Ev.as (v := .int .i64 (((strOf S).size : Int) - 2)) (v' := .int .i64 ((k - 2 : Nat) : Int)) (by rw [hss]; congr 1; omega) Ev.sub) ?_
  refine Qui.p rfl (Ev.cutStr (s := strOf S) (l := 0) (h := k - 2) st.string (hlo := rfl) (hhi := ⟨_, (by repeat (first | exact Look.here | apply Look.there (hne := rfl) | exact Look.const | apply Look.mix rfl | exact Look.arg0 | apply Look.args | exact Look.func))⟩)) ?_
  refine Qui.p rfl (Ev.addStr (h := by rw [strOf_cut, strOf_size, List.length_drop, List.length_take]; show _ + 1 ≤ _; omega)) ?_
  refine Qui.p rfl Ev.move ?_
  refine Qui.p rfl Ev.move ?_
  refine Qui.p rfl (Ev.lenStr st.string) ?_
  refine Qui.p rfl (Ev.as (v := .int .i64 (((strOf S).size : Int) - 2)) (v' := .int .i64 ((k - 2 : Nat) : Int)) (by rw [hss]; congr 1; omega) Ev.sub) ?_
  refine Qui.p rfl (Ev.cutStr (s := strOf S) (l := k - 2) (h := (strOf S).size) st.string (hlo := ⟨_, (by repeat (first | exact Look.here | apply Look.there (hne := rfl) | exact Look.const | apply Look.mix rfl | exact Look.arg0 | apply Look.args | exact Look.func))⟩) (hhi := rfl)) ?_
  refine Qui.p rfl (Ev.addStr (h := by rw [ByteArray.size_append, strOf_cut, strOf_cut, strOf_size, strOf_size, List.length_drop, List.length_take, List.length_drop, List.length_take]; show _ + 1 + _ ≤ _; omega)) ?_
  refine Qui.p rfl Ev.assign ?_
  refine Qui.nil ?_
  refine JC.seq ?_
  refine JC.rs ?_
  refine Seq.p rfl (Ev.faB fd.bourseref01_Money_0) ?_
  refine Seq.p rfl (Ev.ldB sc.bool) ?_
  refine Seq.nil ?_
  first | refine JC.c (ht := fun c21 => ?_) (hf := fun c21 => ?_) | refine JC.cb (ht := fun c21 => ?_) (hf := fun c21 => ?_)
  · -- then_t21
    cases c21
  · -- else_t21
    refine JC.skip ?_
    refine JC.rs ?_
    refine Seq.p rfl Ev.move ?_
    refine Seq.p rfl Ev.assign ?_
    refine Seq.nil ?_
    refine JC.ret ?_
    show retQ _ _ _ _ _ _ _ _
    refine ret1 (hp := Part.nil _) (hpost := ?_)
    rw [strOf_cut, strOf_cut, show (⟨#[46]⟩ : ByteArray) = strOf [46] from rfl, ← strOf_app, ← strOf_app, List.drop_zero, hss, ← hsl, List.take_length]
end Go.Rx
