/- A part of the proof: the text A1. -/
import Derived.Test.YtkmakbkchnibkaaRxT
namespace Go.Rx
open Go Go.RowKit
set_option linter.unusedVariables false
def idxOf (p : Resting → Bool) (xs : List Resting) : Int := match xs.findIdx? p with | some i => i | none => -1
theorem aheadClosure {w : World} {x : Resting} {ad : Addr} {id : Int} (hc : Cell w [] ad (.int .u64 id)) :
    Spec Go.Proofs.Try.prog 18 #[.agg x.enc.toArray, .pointer (some ad)] w [] (fun u _ => u = .bool (decide (x.id = id))) := by
  refine Spec.enter (fn := Go.Proofs.Try.f18) (n := 8) [.agg x.enc.toArray, .pointer (some ad)] Go.Proofs.Try.func18 (by kernel_rfl) rfl Go.Proofs.Try.ntmps18 Go.Proofs.Try.results18 rfl (Own.nil _) ?_
  refine JC.rs ?_
  refine Seq.box (k := ?_); intro b2
  refine Seq.p rfl Ev.assign ?_
  refine Seq.nil ?_
  refine JC.rs ?_
  refine Seq.p rfl (Ev.faB fd.api_Resting_0) ?_
  refine Seq.p rfl (Ev.ldB sc.uint64) ?_
  refine Seq.p rfl (Ev.ldS sc.uint64 (Cells.cell hc)) ?_
  refine Seq.p rfl Ev.eq ?_
  refine Seq.p rfl Ev.assign ?_
  refine Seq.nil ?_
  refine JC.ret ?_
  show retQ _ _ _ _ _ .ret _ _; refine ret1 (hp := Part.nil _) (hpost := ?_)
  rfl
theorem idxOf_here (p : Resting → Bool) (xs : List Resting) (i : Nat) (hi : i < xs.length) (hlt : ∀ j, j < i → p xs[j]! = false) (hp : p xs[i]! = true) : idxOf p xs = i := by
  unfold idxOf
  have : xs.findIdx? p = some i := by
    rw [List.findIdx?_eq_some_iff_getElem]
    refine ⟨hi, by rw [getElem!_pos xs i hi] at hp; exact hp, fun j hj => ?_⟩
    have := hlt j hj
    rw [getElem!_pos xs j (by omega)] at this
    simpa using this
  rw [this]
theorem idxOf_none (p : Resting → Bool) (xs : List Resting) (hlt : ∀ j, j < xs.length → p xs[j]! = false) : idxOf p xs = -1 := by
  unfold idxOf
  have : xs.findIdx? p = none := by
    rw [List.findIdx?_eq_none_iff]
    intro x hx
    obtain ⟨j, hj, rfl⟩ := List.getElem_of_mem hx
    have := hlt j hj
    rwa [getElem!_pos xs j hj] at this
  rw [this]
theorem indexFunc {w : World} {v : Value} {xs : List Resting} {f : FuncId} {first cap : List Value} {p : Resting → Bool} (hr : RSl Resting.enc 7 w [] v xs)
    (hp : ∀ x w', Upd w w' [] [] → Spec Go.Proofs.Try.prog f (first ++ [Value.agg x.enc.toArray] ++ cap).toArray w' [] (fun u _ => u = Value.bool (p x))) :
    Spec Go.Proofs.Try.prog 17 #[v, .func (.func f) first.toArray cap.toArray] w [] (fun u _ => u = .int .i64 (idxOf p xs)) := by
  have hsm := hr.small
  refine Spec.enter (fn := Go.Proofs.Try.f17) (n := 19) [v, .func (.func f) first.toArray cap.toArray] Go.Proofs.Try.func17 (by kernel_rfl) rfl Go.Proofs.Try.ntmps17 Go.Proofs.Try.results17 rfl (Own.nil _) ?_
  refine JC.rs ?_
  refine Seq.p rfl Ev.assign ?_
  refine Seq.nil ?_
  refine JC.seq ?_
  refine JC.rs ?_
  refine Seq.p rfl Ev.move ?_
  refine Seq.p rfl (Ev.lenSl sl.sl_api_Resting (hr := hr.r)) ?_
  refine Seq.p rfl Ev.move ?_
  refine Seq.nil ?_
  refine JC.blk ?_
  refine JC.loop (α := Nat) (I := fun i e1 H1 => Has [4, 5, 8, 9, 10, 11, 12, 13, 14, 15, 16, 17, 18] [(8, .int .i64 (i : Int))] _ e1 ∧ H1 = [] ∧ i ≤ xs.length ∧ ∀ j, j < i → p xs[j]! = false) (μ := fun i => xs.length - i) 0 ⟨Has.mk Off.refl (allLook_cons (by repeat (first | exact Look.here | apply Look.there (hne := rfl) | exact Look.const | apply Look.mix rfl | exact Look.arg0 | apply Look.args | exact Look.func)) allLook_nil), rfl, by omega, by omega⟩ ?_
  rintro i _ _ ⟨⟨u, rfl⟩, rfl, hi, hlt⟩; dsimp only [setL]
  refine JC.rs ?_
  refine Seq.p rfl Ev.lt ?_
  refine Seq.nil ?_
  refine JC.seq ?_
  refine JC.c (ht := fun hc => ?_) (hf := fun hc => ?_)
  · -- t9
    refine JC.skip ?_
    refine JC.seq ?_
    refine JC.blk ?_
    refine JC.rs ?_
    refine Seq.p rfl Ev.move ?_
    refine Seq.p rfl Ev.assign ?_
    refine Seq.nil ?_
    refine JC.rs ?_
    refine Seq.p rfl Ev.move ?_
    refine Seq.p rfl Ev.move ?_
    refine Seq.p rfl Ev.move ?_
    refine Seq.p rfl (Ev.iaN sl.sl_api_Resting (hr := hr.r)) ?_
    refine Seq.p rfl (Ev.ldEA ag.api_Resting (hr := hr.r)) ?_
    refine Seq.callvP rfl rfl (fun w hw => hp _ w hw) ?_
    refine Seq.nil ?_
    refine JC.cb (ht := fun hc => ?_) (hf := fun hc => ?_)
    · -- t16
      refine JC.rs ?_
      refine Seq.p rfl Ev.move ?_
      refine Seq.p rfl Ev.assign ?_
      refine Seq.nil ?_
      refine JC.ret ?_
      show retQ _ _ _ _ _ .ret _ _; refine ret1 (hp := Part.nil _) (hpost := ?_)
      rw [idxOf_here p xs i (by omega) hlt hc]
    · -- not t16
      refine JC.skip ?_
      refine JC.reg ?_
      refine Seq.p rfl (by first | exact Ev.inc | exact Ev.add) ?_
      refine Seq.p rfl Ev.move ?_
      refine Seq.nil ?_
      refine ⟨i + 1, _, Part.refl _, ⟨Has.mk (by repeat (first | refine Off.upd ?_ rfl | exact Off.mix | refine Off.mix2 ?_ rfl | exact Off.refl)) (allLook_cons (by repeat (first | exact Look.here | apply Look.there (hne := rfl) | exact Look.const | apply Look.mix rfl | exact Look.arg0 | apply Look.args | exact Look.func)) allLook_nil), rfl, by omega, ?_⟩, by omega⟩
      intro j hj
      by_cases h : j = i
      · subst h; exact hc
      · exact hlt j (by omega)
  · -- not t9
    refine JC.exit ?_ -- 0
    refine JC.rs ?_
    refine Seq.p rfl Ev.assign ?_
    refine Seq.nil ?_
    refine JC.ret ?_
    show retQ _ _ _ _ _ .ret _ _; refine ret1 (hp := Part.nil _) (hpost := ?_)
    rw [idxOf_none p xs (fun j hj => hlt j (by omega))]
end Go.Rx
