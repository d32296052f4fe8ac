/- A part of the proof: the text A4. -/
import Derived.Test.YtkmakbkchnibkaaA3
namespace Go.Rx
open Go Go.RowKit
set_option linter.unusedVariables false
set_option maxHeartbeats 1000000 in
theorem refSameOrders {w : World} {va vb : Value} {xs ys : List Resting} (ha : RSl Resting.enc 7 w [] va xs) (hb : RSl Resting.enc 7 w [] vb ys) :
    Spec Go.Proofs.Try.prog 20 #[va, vb] w [] (fun u _ => u = .bool (decide (xs = ys))) := by
  have ha1 := ha.small
  have hb1 := hb.small
  refine Spec.enter (fn := Go.Proofs.Try.f20) (n := 26) [va, vb] Go.Proofs.Try.func20 (by kernel_rfl) rfl Go.Proofs.Try.ntmps20 Go.Proofs.Try.results20 rfl (Own.nil _) ?_
  refine JC.rs ?_
  refine Seq.p rfl Ev.assign ?_
  refine Seq.nil ?_
  refine JC.seq ?_
  refine JC.rs ?_
  refine Seq.p rfl Ev.move ?_
  refine Seq.p rfl (Ev.lenSl sl.sl_api_Resting (hr := ha.r)) ?_
  refine Seq.p rfl Ev.move ?_
  refine Seq.p rfl (Ev.lenSl sl.sl_api_Resting (hr := hb.r)) ?_
  refine Seq.p rfl Ev.ne ?_
  refine Seq.nil ?_
  refine JC.c (ht := fun hc => ?_) (hf := fun hc => ?_)
  · -- t10
    refine JC.rs ?_
    refine Seq.p rfl Ev.assign ?_
    refine Seq.nil ?_
    refine JC.ret ?_
    show retQ _ _ _ _ _ .ret _ _
    refine ret1 (hp := Part.nil _) (hpost := ?_)
    have : ¬ xs = ys := fun h => hc (by rw [h])
    rw [decide_eq_false this]
  · -- not t10
    have hl : xs.length = ys.length := by omega
    refine JC.skip ?_
    refine JC.seq ?_
    refine JC.rs ?_
    refine Seq.p rfl Ev.assign ?_
    refine Seq.nil ?_
    refine JC.blk ?_
    refine JC.loop (α := Nat) (I := fun i e1 H1 => Has [4, 5, 11, 12, 13, 14, 15, 16, 17, 18, 19, 20, 21, 22, 23, 24, 25] [(5, .int .i64 (i : Int))] _ e1 ∧ H1 = [] ∧ i ≤ xs.length ∧ ∀ j, j < i → xs[j]! = ys[j]!) (μ := fun i => xs.length - i) 0 ⟨Has.mk Off.refl (allLook_cons (by repeat (first | exact Look.here | apply Look.there (hne := rfl) | exact Look.const | apply Look.mix rfl | exact Look.arg0 | apply Look.args | exact Look.func)) allLook_nil), rfl, by omega, by omega⟩ ?_
    rintro i _ _ ⟨⟨u, rfl⟩, rfl, hi, hlt⟩; dsimp only [setL]
    refine JC.seq ?_
    refine JC.rs ?_
    refine Seq.p rfl Ev.move ?_
    refine Seq.p rfl Ev.move ?_
    refine Seq.p rfl (Ev.lenSl sl.sl_api_Resting (hr := ha.r)) ?_
    refine Seq.p rfl Ev.lt ?_
    refine Seq.nil ?_
    refine JC.c (ht := fun hc => ?_) (hf := fun hc => ?_)
    · -- t14
      refine JC.skip ?_
      refine JC.seq ?_
      refine JC.blk ?_
      refine JC.qs mixed (by kernel_rfl) ?_
      refine Qui.p rfl Ev.move ?_
      refine Qui.p rfl Ev.move ?_
      refine Qui.p rfl (Ev.iaN sl.sl_api_Resting (hr := ha.r)) ?_
      refine Qui.p rfl (Ev.ldEA ag.api_Resting (hr := ha.r)) ?_
      refine Qui.p rfl Ev.move ?_
      refine Qui.p rfl Ev.move ?_
      refine Qui.p rfl (Ev.iaN sl.sl_api_Resting (hr := hb.r)) ?_
      refine Qui.p rfl (Ev.ldEA ag.api_Resting (hr := hb.r)) ?_
      refine Qui.p rfl (Ev.neAg so.api_Resting ag.api_Resting gd.api_Resting) ?_
      rw [Resting.eqL_enc]
      refine Qui.nil ?_
      refine JC.cb (ht := fun hc => ?_) (hf := fun hc => ?_)
      · -- t25
        refine JC.rs ?_
        refine Seq.p rfl Ev.assign ?_
        refine Seq.nil ?_
        refine JC.ret ?_
        show retQ _ _ _ _ _ .ret _ _
        refine ret1 (hp := Part.nil _) (hpost := ?_)
        have : ¬ xs = ys := fun h => by
          rw [h] at hc
          simp at hc
        rw [decide_eq_false this]
      · -- not t25
        have he : xs[i]! = ys[i]! := by
          by_cases h : xs[i]! = ys[i]!
          · exact h
          · rw [decide_eq_false h] at hc; cases hc
        refine JC.skip ?_
        refine JC.reg ?_
        refine Seq.p rfl Ev.move ?_
        refine Seq.p rfl (by first | exact Ev.inc | exact Ev.add) ?_
        refine Seq.p rfl Ev.assign ?_
        refine Seq.nil ?_
        refine ⟨i + 1, _, Part.refl _, ⟨Has.mk (by repeat (first | refine Off.upd ?_ rfl | exact Off.mix | refine Off.mix2 ?_ rfl | exact Off.refl)) (allLook_cons (by repeat (first | exact Look.here | apply Look.there (hne := rfl) | exact Look.const | apply Look.mix rfl | exact Look.arg0 | apply Look.args | exact Look.func)) allLook_nil), rfl, by omega, ?_⟩, by omega⟩
        intro j hj
        by_cases h : j = i
        · subst h; exact he
        · exact hlt j (by omega)
    · -- not t14
      refine JC.exit ?_ -- 0
      refine JC.rs ?_
      refine Seq.p rfl Ev.assign ?_
      refine Seq.nil ?_
      refine JC.ret ?_
      show retQ _ _ _ _ _ .ret _ _
      refine ret1 (hp := Part.nil _) (hpost := ?_)
      have : xs = ys := (list_eq_iff_get xs ys hl).2 (fun j hj => hlt j (by omega))
      rw [decide_eq_true this]

set_option maxHeartbeats 1000000 in
theorem snapSame {w : World} {a b : Book} {vab vas vbb vbs : Value} (hab : RSl Resting.enc 7 w [] vab a.buys) (has : RSl Resting.enc 7 w [] vas a.sells) (hbb : RSl Resting.enc 7 w [] vbb b.buys) (hbs : RSl Resting.enc 7 w [] vbs b.sells) :
    Spec Go.Proofs.Try.prog 9 #[.agg (bookV a vab vas).toArray, .agg (bookV b vbb vbs).toArray] w [] (fun u _ => u = .bool (decide (a = b))) := by
  refine Spec.enter (fn := Go.Proofs.Try.f9) (n := 38) [.agg (bookV a vab vas).toArray, .agg (bookV b vbb vbs).toArray] Go.Proofs.Try.func9 (by kernel_rfl) rfl Go.Proofs.Try.ntmps9 Go.Proofs.Try.results9 rfl (Own.nil _) ?_
  refine JC.rs ?_
  refine Seq.box (k := ?_); intro b2
  refine Seq.box (k := ?_); intro b3
  refine Seq.p rfl Ev.assign ?_
  refine Seq.nil ?_
  refine JC.rs ?_
  refine Seq.p rfl (Ev.faB fd.api_Book_0) ?_
  refine Seq.p rfl (Ev.ldBP ag.api_Config) ?_
  refine Seq.p rfl (Ev.faB fd.api_Book_0) ?_
  refine Seq.p rfl (Ev.ldBP ag.api_Config) ?_
  refine Seq.p rfl (Ev.eqAg so.api_Config ag.api_Config gd.api_Config) ?_
  refine Seq.p rfl Ev.move ?_
  refine Seq.split (d := 10) (k := ?_); rintro (_|_) h10; rotate_left
  refine Seq.gy rfl rfl rfl ?_; refine Seq.p rfl (Ev.faB fd.api_Book_3) ?_
  refine Seq.gy rfl rfl rfl ?_; refine Seq.p rfl (Ev.ldB sc.uint64) ?_
  refine Seq.gy rfl rfl rfl ?_; refine Seq.p rfl (Ev.faB fd.api_Book_3) ?_
  refine Seq.gy rfl rfl rfl ?_; refine Seq.p rfl (Ev.ldB sc.uint64) ?_
  refine Seq.gy rfl rfl rfl ?_; refine Seq.p rfl Ev.eq ?_
  refine Seq.p rfl Ev.pickT ?_
  refine Seq.p rfl Ev.move ?_
  refine Seq.split (d := 17) (k := ?_); rintro (_|_) h17; rotate_left
  refine Seq.gy rfl rfl rfl ?_; refine Seq.p rfl (Ev.faB fd.api_Book_4) ?_
  refine Seq.gy rfl rfl rfl ?_; refine Seq.p rfl (Ev.ldB sc.uint64) ?_
  refine Seq.gy rfl rfl rfl ?_; refine Seq.p rfl (Ev.faB fd.api_Book_4) ?_
  refine Seq.gy rfl rfl rfl ?_; refine Seq.p rfl (Ev.ldB sc.uint64) ?_
  refine Seq.gy rfl rfl rfl ?_; refine Seq.p rfl Ev.eq ?_
  refine Seq.p rfl Ev.pickT ?_
  refine Seq.p rfl Ev.move ?_
  refine Seq.split (d := 24) (k := ?_); rintro (_|_) h24; rotate_left
  refine Seq.gy rfl rfl rfl ?_; refine Seq.p rfl (Ev.faB fd.api_Book_1) ?_
  refine Seq.gy rfl rfl rfl ?_; refine Seq.p rfl (Ev.ldB sc.sl_api_Resting) ?_
  refine Seq.gy rfl rfl rfl ?_; refine Seq.p rfl (Ev.faB fd.api_Book_1) ?_
  refine Seq.gy rfl rfl rfl ?_; refine Seq.p rfl (Ev.ldB sc.sl_api_Resting) ?_
  refine Seq.gy rfl rfl rfl ?_; refine Seq.callP rfl (fun w hw => slicesEqual (hab.up hw) (hbb.up hw)) ?_
  refine Seq.p rfl Ev.pickT ?_
  refine Seq.p rfl Ev.move ?_
  refine Seq.split (d := 31) (k := ?_); rintro (_|_) h31; rotate_left
  refine Seq.gy rfl rfl rfl ?_; refine Seq.p rfl (Ev.faB fd.api_Book_2) ?_
  refine Seq.gy rfl rfl rfl ?_; refine Seq.p rfl (Ev.ldB sc.sl_api_Resting) ?_
  refine Seq.gy rfl rfl rfl ?_; refine Seq.p rfl (Ev.faB fd.api_Book_2) ?_
  refine Seq.gy rfl rfl rfl ?_; refine Seq.p rfl (Ev.ldB sc.sl_api_Resting) ?_
  refine Seq.gy rfl rfl rfl ?_; refine Seq.callP rfl (fun w hw => slicesEqual (has.up hw) (hbs.up hw)) ?_
  refine Seq.p rfl Ev.pickT ?_
  refine Seq.p rfl Ev.assign ?_
  refine Seq.nil ?_
  refine JC.ret ?_
  show retQ _ _ _ _ _ .ret _ _
  refine ret1 (hp := Part.nil _) (hpost := ?_)
  · have h1 : a.cap = b.cap ∧ a.meet = b.meet := by simpa [eqL, eqV, bookV, cellsL] using h10
    have h2 : a.high = b.high := by simpa using h17
    have h3 : a.seq = b.seq := by simpa using h24
    have h4 : a.buys = b.buys := by simpa using h31
    have : (a = b) ↔ (a.sells = b.sells) := by
      constructor
      · rintro rfl; rfl
      · intro h5; cases a; cases b; simp_all
    rw [decide_eq_decide.2 this]
  all_goals
    repeat (first | refine Seq.gn rfl rfl rfl rfl ?_ | refine Seq.gu rfl rfl rfl ?_ | refine Seq.p rfl Ev.pickF ?_ | refine Seq.p rfl Ev.pickT ?_ | refine Seq.p rfl Ev.move ?_ | refine Seq.p rfl Ev.assign ?_)
    refine Seq.nil ?_
    refine JC.ret ?_
    show retQ _ _ _ _ _ .ret _ _
    refine ret1 (hp := Part.nil _) (hpost := ?_)
    rw [decide_eq_false (show ¬ a = b by rintro rfl; simp_all [eqL, eqV, bookV, cellsL])]
set_option maxHeartbeats 1000000 in
theorem refSame {w : World} {a b : Book} {vab vas vbb vbs : Value} (hab : RSl Resting.enc 7 w [] vab a.buys) (has : RSl Resting.enc 7 w [] vas a.sells) (hbb : RSl Resting.enc 7 w [] vbb b.buys) (hbs : RSl Resting.enc 7 w [] vbs b.sells) :
    Spec Go.Proofs.Try.prog 10 #[.agg (bookV a vab vas).toArray, .agg (bookV b vbb vbs).toArray] w [] (fun u _ => u = .bool (decide (a = b))) := by
  refine Spec.enter (fn := Go.Proofs.Try.f10) (n := 38) [.agg (bookV a vab vas).toArray, .agg (bookV b vbb vbs).toArray] Go.Proofs.Try.func10 (by kernel_rfl) rfl Go.Proofs.Try.ntmps10 Go.Proofs.Try.results10 rfl (Own.nil _) ?_
  refine JC.rs ?_
  refine Seq.box (k := ?_); intro b2
  refine Seq.box (k := ?_); intro b3
  refine Seq.p rfl Ev.assign ?_
  refine Seq.nil ?_
  refine JC.rs ?_
  refine Seq.p rfl (Ev.faB fd.api_Book_0) ?_
  refine Seq.p rfl (Ev.ldBP ag.api_Config) ?_
  refine Seq.p rfl (Ev.faB fd.api_Book_0) ?_
  refine Seq.p rfl (Ev.ldBP ag.api_Config) ?_
  refine Seq.p rfl (Ev.eqAg so.api_Config ag.api_Config gd.api_Config) ?_
  refine Seq.p rfl Ev.move ?_
  refine Seq.split (d := 10) (k := ?_); rintro (_|_) h10; rotate_left
  refine Seq.gy rfl rfl rfl ?_; refine Seq.p rfl (Ev.faB fd.api_Book_3) ?_
  refine Seq.gy rfl rfl rfl ?_; refine Seq.p rfl (Ev.ldB sc.uint64) ?_
  refine Seq.gy rfl rfl rfl ?_; refine Seq.p rfl (Ev.faB fd.api_Book_3) ?_
  refine Seq.gy rfl rfl rfl ?_; refine Seq.p rfl (Ev.ldB sc.uint64) ?_
  refine Seq.gy rfl rfl rfl ?_; refine Seq.p rfl Ev.eq ?_
  refine Seq.p rfl Ev.pickT ?_
  refine Seq.p rfl Ev.move ?_
  refine Seq.split (d := 17) (k := ?_); rintro (_|_) h17; rotate_left
  refine Seq.gy rfl rfl rfl ?_; refine Seq.p rfl (Ev.faB fd.api_Book_4) ?_
  refine Seq.gy rfl rfl rfl ?_; refine Seq.p rfl (Ev.ldB sc.uint64) ?_
  refine Seq.gy rfl rfl rfl ?_; refine Seq.p rfl (Ev.faB fd.api_Book_4) ?_
  refine Seq.gy rfl rfl rfl ?_; refine Seq.p rfl (Ev.ldB sc.uint64) ?_
  refine Seq.gy rfl rfl rfl ?_; refine Seq.p rfl Ev.eq ?_
  refine Seq.p rfl Ev.pickT ?_
  refine Seq.p rfl Ev.move ?_
  refine Seq.split (d := 24) (k := ?_); rintro (_|_) h24; rotate_left
  refine Seq.gy rfl rfl rfl ?_; refine Seq.p rfl (Ev.faB fd.api_Book_1) ?_
  refine Seq.gy rfl rfl rfl ?_; refine Seq.p rfl (Ev.ldB sc.sl_api_Resting) ?_
  refine Seq.gy rfl rfl rfl ?_; refine Seq.p rfl (Ev.faB fd.api_Book_1) ?_
  refine Seq.gy rfl rfl rfl ?_; refine Seq.p rfl (Ev.ldB sc.sl_api_Resting) ?_
  refine Seq.gy rfl rfl rfl ?_; refine Seq.callP rfl (fun w hw => refSameOrders (hab.up hw) (hbb.up hw)) ?_
  refine Seq.p rfl Ev.pickT ?_
  refine Seq.p rfl Ev.move ?_
  refine Seq.split (d := 31) (k := ?_); rintro (_|_) h31; rotate_left
  refine Seq.gy rfl rfl rfl ?_; refine Seq.p rfl (Ev.faB fd.api_Book_2) ?_
  refine Seq.gy rfl rfl rfl ?_; refine Seq.p rfl (Ev.ldB sc.sl_api_Resting) ?_
  refine Seq.gy rfl rfl rfl ?_; refine Seq.p rfl (Ev.faB fd.api_Book_2) ?_
  refine Seq.gy rfl rfl rfl ?_; refine Seq.p rfl (Ev.ldB sc.sl_api_Resting) ?_
  refine Seq.gy rfl rfl rfl ?_; refine Seq.callP rfl (fun w hw => refSameOrders (has.up hw) (hbs.up hw)) ?_
  refine Seq.p rfl Ev.pickT ?_
  refine Seq.p rfl Ev.assign ?_
  refine Seq.nil ?_
  refine JC.ret ?_
  show retQ _ _ _ _ _ .ret _ _
  refine ret1 (hp := Part.nil _) (hpost := ?_)
  · have h1 : a.cap = b.cap ∧ a.meet = b.meet := by simpa [eqL, eqV, bookV, cellsL] using h10
    have h2 : a.high = b.high := by simpa using h17
    have h3 : a.seq = b.seq := by simpa using h24
    have h4 : a.buys = b.buys := by simpa using h31
    have : (a = b) ↔ (a.sells = b.sells) := by
      constructor
      · rintro rfl; rfl
      · intro h5; cases a; cases b; simp_all
    rw [decide_eq_decide.2 this]
  all_goals
    repeat (first | refine Seq.gn rfl rfl rfl rfl ?_ | refine Seq.gu rfl rfl rfl ?_ | refine Seq.p rfl Ev.pickF ?_ | refine Seq.p rfl Ev.pickT ?_ | refine Seq.p rfl Ev.move ?_ | refine Seq.p rfl Ev.assign ?_)
    refine Seq.nil ?_
    refine JC.ret ?_
    show retQ _ _ _ _ _ .ret _ _
    refine ret1 (hp := Part.nil _) (hpost := ?_)
    rw [decide_eq_false (show ¬ a = b by rintro rfl; simp_all [eqL, eqV, bookV, cellsL])]
end Go.Rx
