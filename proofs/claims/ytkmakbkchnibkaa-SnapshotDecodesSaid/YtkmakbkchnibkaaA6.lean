/- A part of the proof: the text A6. -/
import Derived.Test.YtkmakbkchnibkaaA5
namespace Go.Rx
open Go Go.RowKit
set_option linter.unusedVariables false
theorem aheadV_shape (o : Option Int) : ∃ x1 x2, aheadV o = .tuple #[.int .u64 x1, .bool x2] := by
  cases o <;> exact ⟨_, _, rfl⟩
set_option maxHeartbeats 4000000 in
set_option maxRecDepth 100000 in
theorem lawAsks {w : World} {a b : Book} {vab vas vbb vbs : Value} {id : Int} (hab : RSl Resting.enc 7 w [] vab a.buys) (has : RSl Resting.enc 7 w [] vas a.sells) (hbb : RSl Resting.enc 7 w [] vbb b.buys) (hbs : RSl Resting.enc 7 w [] vbs b.sells)
    (lb : a.buys.length * 56 ≤ 140737488355328) (ls : a.sells.length * 56 ≤ 140737488355328) :
    Spec Go.Proofs.Try.prog 3 #[.agg (bookV a vab vas).toArray, .agg (bookV b vbb vbs).toArray, .int .u64 id] w [] (fun u _ => u = .bool true) := by
  have hb1 := hab.small
  have hs1 := has.small
  obtain ⟨x1, x2, hx⟩ := aheadV_shape (aheadOf a id)
  refine Spec.enter (fn := Go.Proofs.Try.f3) (n := 65) [.agg (bookV a vab vas).toArray, .agg (bookV b vbb vbs).toArray, .int .u64 id] Go.Proofs.Try.func3 (by kernel_rfl) rfl Go.Proofs.Try.ntmps3 Go.Proofs.Try.results3 rfl (Own.nil _) ?_
  refine JC.rs ?_
  refine Seq.box (k := ?_); intro b3
  refine Seq.box (k := ?_); intro b4
  refine Seq.p rfl Ev.assign ?_
  refine Seq.nil ?_
  refine JC.rs ?_
  refine Seq.p rfl (Ev.ldBA ag.api_Book) ?_
  refine Seq.call rfl (fun w hw => refCopy (hab.up hw) (has.up hw) lb ls) (F := _) (by exact List.Perm.refl _) ?_
  rintro _ _ ⟨A1, c1, A2, c2, rfl, rfl⟩
  simp only [List.cons_append, List.nil_append]
  refine Seq.p rfl Ev.move ?_
  refine Seq.callP rfl (fun w hw => hx ▸ snapAhead (b := a) (RAt.up (RAt.own (enc := Resting.enc) (xs := a.buys) (At.s At.z) rfl rfl (fun _ => rfl) (by omega)) hw) (RAt.up (RAt.own (enc := Resting.enc) (xs := a.sells) At.z rfl rfl (fun _ => rfl) (by omega)) hw)) ?_
  refine Seq.p rfl Ev.move ?_
  refine Seq.p rfl Ev.extract ?_
  refine Seq.p rfl Ev.extract ?_
  refine Seq.p rfl Ev.assign ?_
  refine Seq.p rfl Ev.assign ?_
  refine Seq.nil ?_
  refine JC.rs ?_
  refine Seq.p rfl (Ev.ldBA ag.api_Book) ?_
  refine Seq.p rfl Ev.move ?_
  refine Seq.callP rfl (fun w hw => hx ▸ refAhead (b := a) (hab.up hw) (has.up hw)) ?_
  refine Seq.p rfl Ev.move ?_
  refine Seq.p rfl Ev.extract ?_
  refine Seq.p rfl Ev.extract ?_
  refine Seq.p rfl Ev.assign ?_
  refine Seq.p rfl Ev.assign ?_
  refine Seq.nil ?_
  refine JC.rs ?_
  refine Seq.p rfl (Ev.build pl.api_Resting z.api_Resting) ?_
  refine Seq.buildSl (hsl := sl.sl_api_Resting) (hz := z.api_Resting) (hcs := rfl) (k := ?_); intro b27
  refine Seq.p rfl (Ev.build pl.api_Book z.api_Book) ?_
  refine Seq.alloc (hz := z.api_Book) (k := ?_); intro b11
  refine Seq.store sz.api_Book (k := ?_)
  refine Seq.nil ?_
  refine JC.rs ?_
  refine Seq.p rfl (Ev.build pl.api_Resting z.api_Resting) ?_
  refine Seq.buildSl (hsl := sl.sl_api_Resting) (hz := z.api_Resting) (hcs := rfl) (k := ?_); intro b30
  refine Seq.p rfl (Ev.build pl.api_Book z.api_Book) ?_
  refine Seq.alloc (hz := z.api_Book) (k := ?_); intro b12
  refine Seq.store sz.api_Book (k := ?_)
  refine Seq.nil ?_
  refine JC.seq ?_
  refine JC.qs mixed (by kernel_rfl) ?_
  refine Qui.p rfl Ev.move ?_
  refine Qui.p rfl Ev.move ?_
  refine Qui.p rfl Ev.ne ?_
  refine Qui.p rfl Ev.move ?_
  refine Qui.split (d := 35) (k := ?_); rintro (_|_) h35; rotate_left
  · simp at h35
  refine Qui.gy rfl rfl rfl ?_; refine Qui.p rfl Ev.move ?_
  refine Qui.gy rfl rfl rfl ?_; refine Qui.p rfl Ev.move ?_
  refine Qui.gy rfl rfl rfl ?_; refine Qui.p rfl (Ev.neB bl.bool) ?_
  refine Qui.p rfl Ev.pickF ?_
  refine Qui.p rfl Ev.move ?_
  refine Qui.split (d := 40) (k := ?_); rintro (_|_) h40; rotate_left
  · simp at h40
  refine Qui.gy rfl rfl rfl ?_; refine Qui.p rfl (Ev.ldBA ag.api_Book) ?_
  refine Qui.gy rfl rfl rfl ?_; refine Qui.p rfl (Ev.ldBA ag.api_Book) ?_
  refine Qui.gy rfl rfl rfl ?_; refine Qui.call rfl (fun w hw => snapSame (hab.up hw) (has.up hw) (hbb.up hw) (hbs.up hw)) ?_
  refine Qui.gy rfl rfl rfl ?_; refine Qui.p rfl (Ev.ldBA ag.api_Book) ?_
  refine Qui.gy rfl rfl rfl ?_; refine Qui.p rfl (Ev.ldBA ag.api_Book) ?_
  refine Qui.gy rfl rfl rfl ?_; refine Qui.call rfl (fun w hw => refSame (hab.up hw) (has.up hw) (hbb.up hw) (hbs.up hw)) ?_
  refine Qui.gy rfl rfl rfl ?_; refine Qui.p rfl (Ev.neB bl.bool) ?_
  refine Qui.p rfl Ev.pickF ?_
  refine Qui.nil ?_
  refine JC.cb (ht := fun hc => ?_) (hf := fun hc => ?_)
  · simp at hc
  · -- not t48
    refine JC.skip ?_
    refine JC.as mixed ?_
    refine Any.p 0 rfl (by kernel_rfl) (by kernel_rfl) (by kernel_rfl) rfl (Ev.ldBA ag.api_Book) ?_
    refine Any.p 1 rfl (by kernel_rfl) (by kernel_rfl) (by kernel_rfl) rfl (Ev.ldBA ag.api_Book) ?_
    refine Any.one 2 rfl (by kernel_rfl) ?_
    refine Seq.call rfl (fun w hw => refCopy (hab.up hw) (has.up hw) lb ls) (F := _) (by exact List.Perm.refl _) ?_
    rintro _ _ ⟨A3, c3, A4, c4, rfl, rfl⟩
    simp only [List.cons_append, List.nil_append]
    refine Seq.nil ⟨Part.skip (Part.skip (Part.refl _)), ?_⟩
    refine Any.one 3 rfl (by kernel_rfl) ?_
    refine Seq.callP rfl (fun w hw => snapSame (b := a) (hab.up hw) (has.up hw) (RAt.up (RAt.own (enc := Resting.enc) (xs := a.buys) (At.s At.z) rfl rfl (fun _ => rfl) (by omega)) hw) (RAt.up (RAt.own (enc := Resting.enc) (xs := a.sells) At.z rfl rfl (fun _ => rfl) (by omega)) hw)) ?_
    refine Seq.nil ⟨Part.skip (Part.skip (Part.refl _)), ?_⟩
    refine Any.p 4 rfl (by kernel_rfl) (by kernel_rfl) (by kernel_rfl) rfl Ev.move ?_
    refine Any.split (d := 53) (k := ?_); rintro (_|_) h53
    · simp at h53
    refine Any.gy 5 rfl (by kernel_rfl) (by kernel_rfl) (by kernel_rfl) rfl rfl rfl rfl (Ev.ldBA ag.api_Book) ?_
    refine Any.gy 6 rfl (by kernel_rfl) (by kernel_rfl) (by kernel_rfl) rfl rfl rfl rfl (Ev.ldBA ag.api_Book) ?_
    refine Any.one 7 rfl (by kernel_rfl) ?_
    refine Seq.gy rfl rfl rfl ?_
    refine Seq.callP rfl (fun w hw => snapSame (a := ⟨0, 0, [⟨1, 0, 0, 0, 0, 0, 0⟩], [], 1, 0⟩) (b := ⟨0, 0, [⟨2, 0, 0, 0, 0, 0, 0⟩], [], 1, 0⟩) (RAt.up (RAt.box (enc := Resting.enc)) hw) (RSl.empty _ _ _ _) (RAt.up (RAt.box (enc := Resting.enc)) hw) (RSl.empty _ _ _ _)) ?_
    refine Seq.nil ⟨Part.skip (Part.skip (Part.refl _)), ?_⟩
    refine Any.gy 8 rfl (by kernel_rfl) (by kernel_rfl) (by kernel_rfl) rfl rfl rfl rfl Ev.not ?_
    refine Any.p 9 rfl (by kernel_rfl) (by kernel_rfl) (by kernel_rfl) rfl Ev.pickT ?_
    refine Any.p 10 rfl (by kernel_rfl) (by kernel_rfl) (by kernel_rfl) rfl Ev.move ?_
    refine Any.split (d := 59) (k := ?_); rintro (_|_) h59
    · simp at h59
    refine Any.gy 11 rfl (by kernel_rfl) (by kernel_rfl) (by kernel_rfl) rfl rfl rfl rfl (Ev.build pl.api_Book z.api_Book) ?_
    refine Any.one 12 rfl (by kernel_rfl) ?_
    refine Seq.gy rfl rfl rfl ?_
    refine Seq.buildSl (cs := []) (hsl := sl.sl_api_Resting) (hz := z.api_Resting) (hcs := rfl) (k := ?_); intro b61
    refine Seq.nil ⟨Part.skip (Part.skip (Part.skip (Part.refl _))), ?_⟩
    refine Any.gy 13 rfl (by kernel_rfl) (by kernel_rfl) (by kernel_rfl) rfl rfl rfl rfl (Ev.build pl.api_Book z.api_Book) ?_
    refine Any.one 14 rfl (by kernel_rfl) ?_
    refine Seq.gy rfl rfl rfl ?_
    refine Seq.callP rfl (fun w hw => snapSame (a := ⟨0, 0, [], [], 0, 0⟩) (b := ⟨0, 0, [], [], 0, 0⟩) (RSl.empty _ _ _ _) (RSl.empty _ _ _ _) (RSl.empty _ _ _ _) (RAt.up (RAt.box (enc := Resting.enc)) hw)) ?_
    refine Seq.nil ⟨Part.skip (Part.skip (Part.skip (Part.refl _))), ?_⟩
    refine Any.p 15 rfl (by kernel_rfl) (by kernel_rfl) (by kernel_rfl) rfl Ev.pickT ?_
    refine Any.p 16 rfl (by kernel_rfl) (by kernel_rfl) (by kernel_rfl) rfl Ev.assign ?_
    refine Any.done (by kernel_rfl) ?_
    refine JC.ret ?_
    show retQ _ _ _ _ _ .ret _ _
    refine ret1 (hp := Part.nil _) (hpost := ?_)
    simp
end Go.Rx
