/- A part of the proof: the text A3. -/
import Derived.Test.YtkmakbkchnibkaaA2
namespace Go.Rx
open Go Go.RowKit
set_option linter.unusedVariables false
theorem Resting.eqL_enc (x y : Resting) : eqL x.enc y.enc = decide (x = y) := by
  cases x; cases y
  simp [Resting.enc, eqL, eqV, Bool.decide_and]
theorem list_eq_iff_get (xs ys : List Resting) (h : xs.length = ys.length) : xs = ys ↔ ∀ j, j < xs.length → xs[j]! = ys[j]! := by
  constructor
  · rintro rfl _ _; rfl
  · intro hg
    refine List.ext_getElem h (fun i h1 h2 => ?_)
    have := hg i h1
    rwa [getElem!_pos xs i h1, getElem!_pos ys i h2] at this
set_option maxHeartbeats 1000000 in
theorem slicesEqual {w : World} {va vb : Value} {xs ys : List Resting} (ha : RSl Resting.enc 7 w [] va xs) (hb : RSl Resting.enc 7 w [] vb ys) :
    Spec Go.Proofs.Try.prog 19 #[va, vb] w [] (fun u _ => u = .bool (decide (xs = ys))) := by
  have ha1 := ha.small
  have hb1 := hb.small
  refine Spec.enter (fn := Go.Proofs.Try.f19) (n := 26) [va, vb] Go.Proofs.Try.func19 (by kernel_rfl) rfl Go.Proofs.Try.ntmps19 Go.Proofs.Try.results19 rfl (Own.nil _) ?_
  refine JC.rs ?_
  refine Seq.p rfl Ev.assign ?_
  refine Seq.nil ?_
  refine JC.seq ?_
  refine JC.rs ?_
  refine Seq.p rfl Ev.move ?_
  refine Seq.p rfl (Ev.lenSl sl.sl_api_Resting (hr := ha.r)) ?_
  refine Seq.p rfl Ev.move ?_
  refine Seq.p rfl (Ev.lenSl sl.sl_api_Resting (hr := hb.r)) ?_
  refine Seq.p rfl Ev.ne ?_
  refine Seq.nil ?_
  refine JC.c (ht := fun hc => ?_) (hf := fun hc => ?_)
  · -- t10
    refine JC.rs ?_
    refine Seq.p rfl Ev.assign ?_
    refine Seq.nil ?_
    refine JC.ret ?_
    show retQ _ _ _ _ _ .ret _ _
    refine ret1 (hp := Part.nil _) (hpost := ?_)
    have : ¬ xs = ys := fun h => hc (by rw [h])
    rw [decide_eq_false this]
  · -- not t10
    have hl : xs.length = ys.length := by omega
    refine JC.skip ?_
    refine JC.seq ?_
    refine JC.rs ?_
    refine Seq.p rfl Ev.move ?_
    refine Seq.p rfl (Ev.lenSl sl.sl_api_Resting (hr := ha.r)) ?_
    refine Seq.p rfl Ev.move ?_
    refine Seq.nil ?_
    refine JC.blk ?_
    refine JC.loop (α := Nat) (I := fun i e1 H1 => Has [4, 5, 13, 14, 15, 16, 17, 18, 19, 20, 21, 22, 23, 24, 25] [(13, .int .i64 (i : Int))] _ e1 ∧ H1 = [] ∧ i ≤ xs.length ∧ ∀ j, j < i → xs[j]! = ys[j]!) (μ := fun i => xs.length - i) 0 ⟨Has.mk Off.refl (allLook_cons (by repeat (first | exact Look.here | apply Look.there (hne := rfl) | exact Look.const | apply Look.mix rfl | exact Look.arg0 | apply Look.args | exact Look.func)) allLook_nil), rfl, by omega, by omega⟩ ?_
    rintro i _ _ ⟨⟨u, rfl⟩, rfl, hi, hlt⟩; dsimp only [setL]
    refine JC.rs ?_
    refine Seq.p rfl Ev.lt ?_
    refine Seq.nil ?_
    refine JC.seq ?_
    refine JC.c (ht := fun hc => ?_) (hf := fun hc => ?_)
    · -- t14
      refine JC.skip ?_
      refine JC.seq ?_
      refine JC.blk ?_
      refine JC.rs ?_
      refine Seq.p rfl Ev.move ?_
      refine Seq.p rfl Ev.assign ?_
      refine Seq.nil ?_
      refine JC.qs mixed (by kernel_rfl) ?_
      refine Qui.p rfl Ev.move ?_
      refine Qui.p rfl Ev.move ?_
      refine Qui.p rfl (Ev.iaN sl.sl_api_Resting (hr := ha.r)) ?_
      refine Qui.p rfl (Ev.ldEA ag.api_Resting (hr := ha.r)) ?_
      refine Qui.p rfl Ev.move ?_
      refine Qui.p rfl Ev.move ?_
      refine Qui.p rfl (Ev.iaN sl.sl_api_Resting (hr := hb.r)) ?_
      refine Qui.p rfl (Ev.ldEA ag.api_Resting (hr := hb.r)) ?_
      refine Qui.p rfl (Ev.neAg so.api_Resting ag.api_Resting gd.api_Resting) ?_
      rw [Resting.eqL_enc]
      refine Qui.nil ?_
      refine JC.cb (ht := fun hc => ?_) (hf := fun hc => ?_)
      · -- t24
        refine JC.rs ?_
        refine Seq.p rfl Ev.assign ?_
        refine Seq.nil ?_
        refine JC.ret ?_
        show retQ _ _ _ _ _ .ret _ _
        refine ret1 (hp := Part.nil _) (hpost := ?_)
        have : ¬ xs = ys := fun h => by
          rw [h] at hc
          simp at hc
        rw [decide_eq_false this]
      · -- not t24
        have he : xs[i]! = ys[i]! := by
          by_cases h : xs[i]! = ys[i]!
          · exact h
          · rw [decide_eq_false h] at hc; cases hc
        refine JC.skip ?_
        refine JC.reg ?_
        refine Seq.p rfl (by first | exact Ev.inc | exact Ev.add) ?_
        refine Seq.p rfl Ev.move ?_
        refine Seq.nil ?_
        refine ⟨i + 1, _, Part.refl _, ⟨Has.mk (by repeat (first | refine Off.upd ?_ rfl | exact Off.mix | refine Off.mix2 ?_ rfl | exact Off.refl)) (allLook_cons (by repeat (first | exact Look.here | apply Look.there (hne := rfl) | exact Look.const | apply Look.mix rfl | exact Look.arg0 | apply Look.args | exact Look.func)) allLook_nil), rfl, by omega, ?_⟩, by omega⟩
        intro j hj
        by_cases h : j = i
        · subst h; exact he
        · exact hlt j (by omega)
    · -- not t14
      refine JC.exit ?_ -- 0
      refine JC.rs ?_
      refine Seq.p rfl Ev.assign ?_
      refine Seq.nil ?_
      refine JC.ret ?_
      show retQ _ _ _ _ _ .ret _ _
      refine ret1 (hp := Part.nil _) (hpost := ?_)
      have : xs = ys := (list_eq_iff_get xs ys hl).2 (fun j hj => hlt j (by omega))
      rw [decide_eq_true this]
end Go.Rx
