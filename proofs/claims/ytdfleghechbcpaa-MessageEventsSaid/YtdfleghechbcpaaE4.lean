/- A part of the proof: the text E4. -/
import Derived.Test.YtdfleghechbcpaaE3
namespace Go.Rx
open Go Go.RowKit
set_option linter.unusedVariables false
set_option linter.unusedSimpArgs false
def evStepF (i : Event) (f : RF) (s : Event × List Int) : Option (Event × List Int) :=
  if (eventValueF i f.tag).2 = false then none else if 0 < f.most ∧ f.most < (eventValueF i f.tag).1 then none else some (withEventF s.1 f.tag (eventValueF i f.tag).1, s.2 ++ [(eventValueF i f.tag).1])
def evValsGo (i : Event) : List RF → Event × List Int → Option (Event × List Int)
  | [], s => some s
  | f :: r, s => match evStepF i f s with | none => none | some s' => evValsGo i r s'
theorem evValsGo_append (i : Event) (xs ys : List RF) (s : Event × List Int) : evValsGo i (xs ++ ys) s = match evValsGo i xs s with | none => none | some s' => evValsGo i ys s' := by
  induction xs generalizing s with
  | nil => rfl
  | cons f r ih =>
    simp only [List.cons_append, evValsGo]
    cases evStepF i f s with
    | none => rfl
    | some s' => exact ih s'
theorem evValsGo_snoc {i : Event} {l : List RF} {k : Nat} (hk : k < l.length) {s s' : Event × List Int} (h : evValsGo i (l.take k) s = some s') : evValsGo i (l.take (k + 1)) s = evStepF i l[k]! s' := by
  have : l.take (k + 1) = l.take k ++ [l[k]!] := by
    rw [List.take_succ_eq_append_getElem hk, getElem!_pos l k hk]
  rw [this, evValsGo_append, h]
  simp only [evValsGo]
  cases evStepF i l[k]! s' <;> rfl
theorem evValsGo_none {i : Event} {l : List RF} {k : Nat} {s : Event × List Int} (h : evValsGo i (l.take k) s = none) : evValsGo i l s = none := by
  rw [← List.take_append_drop k l, evValsGo_append, h]
theorem evValsGo_length {i : Event} : ∀ (l : List RF) (s s' : Event × List Int), evValsGo i l s = some s' → s'.2.length = s.2.length + l.length
  | [], s, s', h => by
    simp only [evValsGo, Option.some.injEq] at h
    subst h
    rfl
  | f :: r, s, s', h => by
    simp only [evValsGo] at h
    cases hs : evStepF i f s with
    | none => rw [hs] at h; cases h
    | some t =>
      rw [hs] at h
      have := evValsGo_length r t s' h
      unfold evStepF at hs
      split at hs
      · cases hs
      · split at hs
        · cases hs
        · simp only [Option.some.injEq] at hs
          subst hs
          simp only [List.length_append, List.length_singleton] at this
          simp only [List.length_cons]
          omega
def ev0 (k : Int) : Event := ⟨0, k, 0, 0, 0, 0, 0, 0, 0, 0, 0, 0, 0⟩
def refEvE (i : Event) : Int :=
  if ¬ (1 ≤ i.kind ∧ i.kind ≤ 5) then 41 else match evValsGo i (toldRF i.kind) (ev0 i.kind, []) with | none => 40 | some s => if s.1 = i then 0 else 40
def EvValuesPost (i : Event) (u : Value) (N : List Chunk) : Prop :=
  if refEvE i = 0 then ∃ s A c, (1 ≤ i.kind ∧ i.kind ≤ 5) ∧ evValsGo i (toldRF i.kind) (ev0 i.kind, []) = some s ∧ u = .tuple #[.slice A s.2.length c, .int .i64 0] ∧ N = [.own 22 1 (.slice A s.2.length c) s.2.length (s.2.flatMap uenc)]
  else u = .tuple #[.slice none 0 0, .int .i64 (refEvE i)]
theorem toldRF_small (k : Int) : (toldRF k).length ≤ 8 := by
  unfold toldRF
  repeat (first | exact Nat.le_of_ble_eq_true rfl | split)
theorem toldRF_pos {k : Int} (hk : 1 ≤ k ∧ k ≤ 5) : 1 ≤ (toldRF k).length := by
  have : k = 1 ∨ k = 2 ∨ k = 3 ∨ k = 4 ∨ k = 5 := by omega
  rcases this with rfl | rfl | rfl | rfl | rfl <;> exact Nat.le_of_ble_eq_true rfl
theorem toldRF_words (k : Int) : ∀ f ∈ toldRF k, 0 ≤ f.word ∧ f.word < 7 ∧ 0 ≤ f.shift := by
  have h : ((toldRF k).all fun f => decide (0 ≤ f.word ∧ f.word < 7 ∧ 0 ≤ f.shift)) = true := by
    unfold toldRF
    repeat (first | rfl | split)
  intro f hf
  exact of_decide_eq_true (List.all_eq_true.1 h f hf)
set_option maxHeartbeats 4000000 in
set_option maxRecDepth 100000 in
theorem refEvValues0 {w : World} {i : Event} (hk : ¬ (1 ≤ i.kind ∧ i.kind ≤ 5)) : Spec Go.Proofs.Try.prog 20 #[.agg i.enc.toArray] w [] (EvValuesPost i) := by
  refine Spec.enter (fn := Go.Proofs.Try.f20) (n := 70) [.agg i.enc.toArray] Go.Proofs.Try.func20 (by kernel_rfl) rfl Go.Proofs.Try.ntmps20 Go.Proofs.Try.results20 rfl (Own.nil _) ?_
  refine JC.rs ?_
  refine Seq.box (cs := [_, _, _, _, _, _, _, _, _, _, _, _, _]) (k := ?_); intro b1
  refine Seq.p rfl Ev.assign ?_
  refine Seq.p rfl Ev.assign ?_
  refine Seq.nil ?_
  refine JC.rs ?_
  refine Seq.p rfl (Ev.faB fd.api_Event_1) ?_
  refine Seq.p rfl (Ev.ldB sc.int) ?_
  refine Seq.callP rfl (fun w hw => refTold0 hk) ?_
  refine Seq.p rfl Ev.assign ?_
  refine Seq.nil ?_
  refine JC.seq ?_
  refine JC.rs ?_
  refine Seq.p rfl Ev.move ?_
  refine Seq.p rfl (Ev.lenSl sl.sl_bourseref04_field (hr := (RSl.r (RSl.empty RF.enc 4 w _)))) ?_
  refine Seq.p rfl Ev.eq ?_
  refine Seq.nil ?_
  first | refine JC.c (ht := fun c15 => ?_) (hf := fun c15 => ?_) | refine JC.cb (ht := fun c15 => ?_) (hf := fun c15 => ?_)
  · -- then_t15
    refine JC.rs ?_
    refine Seq.p rfl Ev.assign ?_
    refine Seq.p rfl Ev.assign ?_
    refine Seq.nil ?_
    refine JC.ret ?_
    -- return 0
    show retQ _ _ _ _ _ _ _ _
    refine ret2 (hp := Part.nil _) (hpost := ?_)
    have hE : refEvE i = 41 := if_pos hk
    show EvValuesPost _ _ _
    rw [EvValuesPost, if_neg (by rw [hE]; decide), hE]
  · -- else_t15
    exact absurd rfl c15
set_option maxHeartbeats 4000000 in
set_option maxRecDepth 100000 in
theorem refEvValues1 {w : World} {i : Event} (hk : 1 ≤ i.kind ∧ i.kind ≤ 5) : Spec Go.Proofs.Try.prog 20 #[.agg i.enc.toArray] w [] (EvValuesPost i) := by
  have hsm := toldRF_small i.kind
  have hpos := toldRF_pos hk
  have hE : refEvE i = match evValsGo i (toldRF i.kind) (ev0 i.kind, []) with | none => 40 | some s => if s.1 = i then 0 else 40 := if_neg (fun h => h hk)
  have hsp := @refTold
  generalize hl : toldRF i.kind = l at hsm hE hpos
  refine Spec.enter (fn := Go.Proofs.Try.f20) (n := 70) [.agg i.enc.toArray] Go.Proofs.Try.func20 (by kernel_rfl) rfl Go.Proofs.Try.ntmps20 Go.Proofs.Try.results20 rfl (Own.nil _) ?_
  refine JC.rs ?_
  refine Seq.box (cs := [_, _, _, _, _, _, _, _, _, _, _, _, _]) (k := ?_); intro b1
  refine Seq.p rfl Ev.assign ?_
  refine Seq.p rfl Ev.assign ?_
  refine Seq.nil ?_
  refine JC.rs ?_
  refine Seq.p rfl (Ev.faB fd.api_Event_1) ?_
  refine Seq.p rfl (Ev.ldB sc.int) ?_
  refine Seq.call rfl (fun w hw => hl ▸ hsp hk) (F := _) (by exact List.Perm.refl _) ?_
  rintro _ _ ⟨bl, rfl, rfl⟩
  refine Seq.p rfl Ev.assign ?_
  refine Seq.nil ?_
  refine JC.seq ?_
  refine JC.rs ?_
  refine Seq.p rfl Ev.move ?_
  refine Seq.p rfl (Ev.lenSl sl.sl_bourseref04_field (hr := RAt.box (enc := RF.enc) (sz := 4) (hs := by omega))) ?_
  refine Seq.p rfl Ev.eq ?_
  refine Seq.nil ?_
  first | refine JC.c (ht := fun c15 => ?_) (hf := fun c15 => ?_) | refine JC.cb (ht := fun c15 => ?_) (hf := fun c15 => ?_)
  · -- then_t15
    exfalso; omega
  · -- else_t15
    refine JC.skip ?_
    refine JC.rs ?_
    refine Seq.p rfl (Ev.faB fd.api_Event_1) ?_
    refine Seq.p rfl (Ev.ldB sc.int) ?_
    refine Seq.p rfl (Ev.buildN [_, _, _, _, _, _, _, _, _, _, _, _, _] pl.api_Event z.api_Event) ?_
    refine Seq.alloc (cs := [_, _, _, _, _, _, _, _, _, _, _, _, _]) (hz := z.api_Event) (k := ?_); intro b5
    refine Seq.storeN [_, _, _, _, _, _, _, _, _, _, _, _, _] sz.api_Event (k := ?_)
    refine Seq.nil ?_
    refine JC.rs ?_
    refine Seq.p rfl Ev.assign ?_
    refine Seq.re (fun w h => Upd.nilOwn h 22 1) ?_
    refine Seq.nil ?_
    refine JC.seq ?_
    refine JC.rs ?_
    refine Seq.p rfl Ev.assign ?_
    refine Seq.nil ?_
    refine JC.blk ?_
    refine JC.loop (α := Nat × Option Addr × Nat × Event × List Int) (I := fun s e1 H1 => Has [2, 3, 6, 7, 8, 9, 19, 20, 21, 22, 23, 24, 25, 26, 27, 28, 29, 30, 31, 32, 33, 34, 35, 36, 37, 38, 39, 40, 41, 42, 43, 44, 45, 46, 47, 48, 49, 50, 51, 52, 53, 54, 55, 56, 57, 58, 59, 60, 61, 62, 63, 64, 65] [(7, .int .i64 (s.1 : Int)), (6, .slice s.2.1 s.1 s.2.2.1)] _ e1 ∧ H1 = [.own 22 1 (.slice s.2.1 s.1 s.2.2.1) s.1 (s.2.2.2.2.flatMap uenc), .box b5 36 s.2.2.2.1.enc, .box bl 65 (l.flatMap RF.enc), .box b1 36 i.enc] ∧ s.1 ≤ l.length ∧ evValsGo i (l.take s.1) (ev0 i.kind, []) = some (s.2.2.2.1, s.2.2.2.2) ∧ s.2.2.2.2.length = s.1) (μ := fun s => l.length - s.1) (0, none, 0, ev0 i.kind, []) ⟨Has.mk Off.refl (allLook_cons (by repeat (first | exact Look.here | apply Look.there (hne := rfl) | exact Look.const | apply Look.mix rfl | exact Look.arg0 | apply Look.args | exact Look.func)) (allLook_cons (by repeat (first | exact Look.here | apply Look.there (hne := rfl) | exact Look.const | apply Look.mix rfl | exact Look.arg0 | apply Look.args | exact Look.func)) allLook_nil)), rfl, by omega, rfl, rfl⟩ ?_
    rintro ⟨k, A, cc, agn, out⟩ _ _ ⟨⟨ui, rfl⟩, rfl, hk2', hv, hol⟩; dsimp only [setL]; dsimp only at hk2' hv hol
    refine JC.seq ?_
    refine JC.rs ?_
    refine Seq.p rfl Ev.move ?_
    refine Seq.p rfl Ev.move ?_
    refine Seq.p rfl (Ev.lenSl sl.sl_bourseref04_field (hr := RAt.box (enc := RF.enc) (sz := 4) (hs := by omega))) ?_
    refine Seq.p rfl Ev.lt ?_
    refine Seq.nil ?_
    first | refine JC.c (ht := fun c22 => ?_) (hf := fun c22 => ?_) | refine JC.cb (ht := fun c22 => ?_) (hf := fun c22 => ?_)
    · -- then_t22
      have hk2 : k < l.length := by omega
      have hsn := evValsGo_snoc hk2 hv
      refine JC.skip ?_
      refine JC.seq ?_
      refine JC.blk ?_
      refine JC.qs mixed (by kernel_rfl) ?_
      refine Qui.p rfl (Ev.ldBA ag.api_Event) ?_
      refine Qui.p rfl Ev.move ?_
      refine Qui.p rfl Ev.move ?_
      refine Qui.p rfl (Ev.iaN sl.sl_bourseref04_field (hr := RAt.box (enc := RF.enc) (sz := 4) (hs := by omega))) ?_
      refine Qui.p rfl (Ev.fa fd.bourseref04_field_0) ?_
      refine Qui.p rfl (Ev.ldE sc.int (hr := RAt.box (enc := RF.enc) (sz := 4) (hs := by omega))) ?_
      refine Qui.call rfl (fun w hw => refEventValue) ?_
      refine Qui.p rfl Ev.move ?_
      refine Qui.p rfl Ev.extract ?_
      refine Qui.p rfl Ev.extract ?_
      refine Qui.p rfl Ev.assign ?_
      refine Qui.p rfl Ev.assign ?_
      refine Qui.nil ?_
      refine JC.seq ?_
      refine JC.rs ?_
      refine Seq.p rfl Ev.move ?_
      refine Seq.p rfl Ev.not ?_
      refine Seq.p rfl Ev.move ?_
      refine Seq.split (d := 37) (k := ?_)
      rintro (_|_) h37
      · try simp only [decide_eq_true_eq, decide_eq_false_iff_not] at h37
        refine Seq.gy rfl rfl rfl ?_
        refine Seq.p rfl Ev.move ?_
        refine Seq.gy rfl rfl rfl ?_
        refine Seq.p rfl Ev.move ?_
        refine Seq.gy rfl rfl rfl ?_
        refine Seq.p rfl (Ev.iaN sl.sl_bourseref04_field (hr := RAt.box (enc := RF.enc) (sz := 4) (hs := by omega))) ?_
        refine Seq.gy rfl rfl rfl ?_
        refine Seq.p rfl (Ev.fa fd.bourseref04_field_1) ?_
        refine Seq.gy rfl rfl rfl ?_
        refine Seq.p rfl (Ev.ldE sc.uint64 (hr := RAt.box (enc := RF.enc) (sz := 4) (hs := by omega))) ?_
        refine Seq.gy rfl rfl rfl ?_
        refine Seq.p rfl Ev.gt ?_
        refine Seq.gy rfl rfl rfl ?_
        refine Seq.p rfl Ev.move ?_
        refine Seq.split (d := 44) (k := ?_)
        rintro (_|_) h44
        · try simp only [decide_eq_true_eq, decide_eq_false_iff_not] at h44
          refine Seq.gn rfl rfl rfl rfl ?_
          refine Seq.gn rfl rfl rfl rfl ?_
          refine Seq.gn rfl rfl rfl rfl ?_
          refine Seq.gn rfl rfl rfl rfl ?_
          refine Seq.gn rfl rfl rfl rfl ?_
          refine Seq.gn rfl rfl rfl rfl ?_
          refine Seq.gn rfl rfl rfl rfl ?_
          refine Seq.gy rfl rfl rfl ?_
          refine Seq.p rfl Ev.pickF ?_
          refine Seq.p rfl Ev.pickF ?_
          refine Seq.nil ?_
          refine JC.cF (h := ?_)
          refine JC.skip ?_
          refine JC.asE 1 mixed ?_
          refine Any.p 1 rfl (by kernel_rfl) (by kernel_rfl) (by kernel_rfl) rfl Ev.move ?_
          refine Any.p 2 rfl (by kernel_rfl) (by kernel_rfl) (by kernel_rfl) rfl Ev.move ?_
          refine Any.p 3 rfl (by kernel_rfl) (by kernel_rfl) (by kernel_rfl) rfl (Ev.iaN sl.sl_bourseref04_field (hr := RAt.box (enc := RF.enc) (sz := 4) (hs := by omega))) ?_
          refine Any.p 4 rfl (by kernel_rfl) (by kernel_rfl) (by kernel_rfl) rfl (Ev.fa fd.bourseref04_field_0) ?_
          refine Any.p 5 rfl (by kernel_rfl) (by kernel_rfl) (by kernel_rfl) rfl (Ev.ldE sc.int (hr := RAt.box (enc := RF.enc) (sz := 4) (hs := by omega))) ?_
          refine Any.p 6 rfl (by kernel_rfl) (by kernel_rfl) (by kernel_rfl) rfl Ev.move ?_
          refine Any.one 0 rfl (by kernel_rfl) ?_
          refine Seq.p rfl (Ev.ldBA ag.api_Event) ?_
          refine Seq.nil ⟨(by repeat (first | exact Part.refl _ | exact Part.nil _ | apply Part.here | apply Part.skip)), ?_⟩
          refine Any.one 7 rfl (by kernel_rfl) ?_
          refine Seq.callP rfl (fun w hw => refWithEvent) ?_
          refine Seq.nil ⟨(by repeat (first | exact Part.refl _ | exact Part.nil _ | apply Part.here | apply Part.skip)), ?_⟩
          refine Any.one 8 rfl (by kernel_rfl) ?_
          refine Seq.storeN [_, _, _, _, _, _, _, _, _, _, _, _, _] sz.api_Event (k := ?_)
          refine Seq.nil ⟨(by repeat (first | exact Part.refl _ | exact Part.nil _ | apply Part.here | apply Part.skip)), ?_⟩
          refine Any.done (by kernel_rfl) ?_
          refine JC.reg ?_
          refine Seq.p rfl Ev.move ?_
          refine Seq.p rfl Ev.move ?_
          refine Seq.buildSlN [_] (hsl := sl.sl_uint64) (hz := z.uint64) (k := ?_); intro b64
          refine Seq.append (hsl := sl.sl_uint64) (he := el.uint64) (hsrc := (fun w' hw => Src.box (news := [.int .u64 (eventValueF i l[k]!.tag).1]) sl.sl_uint64 At.z hw rfl (by intro q u hu; cases q with | zero => exact hu | succ q => simp at hu))) (k := ?_); intro A65 c65
          refine Seq.p rfl Ev.assign ?_
          refine Seq.nil ?_
          refine JC.reg ?_
          refine Seq.p rfl Ev.move ?_
          refine Seq.p rfl (by first | exact Ev.inc | exact Ev.add) ?_
          refine Seq.p rfl Ev.assign ?_
          refine Seq.nil ?_
          have hst : evStepF i l[k]! (agn, out) = some (withEventF agn l[k]!.tag (eventValueF i l[k]!.tag).1, out ++ [(eventValueF i l[k]!.tag).1]) := by rw [evStepF, if_neg (by simpa using h37), if_neg (by intro h; omega)]
          rw [hst] at hsn
          refine ⟨(k + 1, A65, c65, withEventF agn l[k]!.tag (eventValueF i l[k]!.tag).1, out ++ [(eventValueF i l[k]!.tag).1]), _, Part.skip (Part.refl _), ⟨Has.mk (by repeat (first | refine Off.upd ?_ rfl | exact Off.mix | refine Off.mix2 ?_ rfl | exact Off.refl)) (allLook_cons (by repeat (first | exact Look.here | apply Look.there (hne := rfl) | exact Look.const | apply Look.mix rfl | exact Look.arg0 | apply Look.args | exact Look.func)) (allLook_cons (by repeat (first | exact Look.here | apply Look.there (hne := rfl) | exact Look.const | apply Look.mix rfl | exact Look.arg0 | apply Look.args | exact Look.func)) allLook_nil)), by simp only [List.flatMap_append]; rfl, by show k + 1 ≤ l.length; omega, hsn, by simp [hol]⟩, by show l.length - (k + 1) < l.length - k; omega⟩
        · try simp only [decide_eq_true_eq, decide_eq_false_iff_not] at h44
          refine Seq.gy rfl rfl rfl ?_
          refine Seq.p rfl Ev.move ?_
          refine Seq.gy rfl rfl rfl ?_
          refine Seq.p rfl Ev.move ?_
          refine Seq.gy rfl rfl rfl ?_
          refine Seq.p rfl Ev.move ?_
          refine Seq.gy rfl rfl rfl ?_
          refine Seq.p rfl (Ev.iaN sl.sl_bourseref04_field (hr := RAt.box (enc := RF.enc) (sz := 4) (hs := by omega))) ?_
          refine Seq.gy rfl rfl rfl ?_
          refine Seq.p rfl (Ev.fa fd.bourseref04_field_1) ?_
          refine Seq.gy rfl rfl rfl ?_
          refine Seq.p rfl (Ev.ldE sc.uint64 (hr := RAt.box (enc := RF.enc) (sz := 4) (hs := by omega))) ?_
          refine Seq.gy rfl rfl rfl ?_
          refine Seq.p rfl Ev.gt ?_
          refine Seq.gy rfl rfl rfl ?_
          refine Seq.p rfl Ev.pickT ?_
          refine Seq.p rfl Ev.pickF ?_
          refine Seq.nil ?_
          first | refine JC.c (ht := fun c53 => ?_) (hf := fun c53 => ?_) | refine JC.cb (ht := fun c53 => ?_) (hf := fun c53 => ?_)
          · -- then_t53
            refine JC.rs ?_
            refine Seq.p rfl Ev.assign ?_
            refine Seq.p rfl Ev.assign ?_
            refine Seq.nil ?_
            refine JC.ret ?_
            -- return 0
            show retQ _ _ _ _ _ _ _ _
            refine ret2 (hp := Part.nil _) (hpost := ?_)
            have hst : evStepF i l[k]! (agn, out) = none := by rw [evStepF, if_neg (by simpa using h37), if_pos (by constructor <;> omega)]
            rw [hst] at hsn
            have hE40 : refEvE i = 40 := by rw [hE, evValsGo_none hsn]
            show EvValuesPost _ _ _
            rw [EvValuesPost, if_neg (by rw [hE40]; decide), hE40]
          · -- else_t53
            refine JC.skip ?_
            refine JC.asE 1 mixed ?_
            refine Any.p 1 rfl (by kernel_rfl) (by kernel_rfl) (by kernel_rfl) rfl Ev.move ?_
            refine Any.p 2 rfl (by kernel_rfl) (by kernel_rfl) (by kernel_rfl) rfl Ev.move ?_
            refine Any.p 3 rfl (by kernel_rfl) (by kernel_rfl) (by kernel_rfl) rfl (Ev.iaN sl.sl_bourseref04_field (hr := RAt.box (enc := RF.enc) (sz := 4) (hs := by omega))) ?_
            refine Any.p 4 rfl (by kernel_rfl) (by kernel_rfl) (by kernel_rfl) rfl (Ev.fa fd.bourseref04_field_0) ?_
            refine Any.p 5 rfl (by kernel_rfl) (by kernel_rfl) (by kernel_rfl) rfl (Ev.ldE sc.int (hr := RAt.box (enc := RF.enc) (sz := 4) (hs := by omega))) ?_
            refine Any.p 6 rfl (by kernel_rfl) (by kernel_rfl) (by kernel_rfl) rfl Ev.move ?_
            refine Any.one 0 rfl (by kernel_rfl) ?_
            refine Seq.p rfl (Ev.ldBA ag.api_Event) ?_
            refine Seq.nil ⟨(by repeat (first | exact Part.refl _ | exact Part.nil _ | apply Part.here | apply Part.skip)), ?_⟩
            refine Any.one 7 rfl (by kernel_rfl) ?_
            refine Seq.callP rfl (fun w hw => refWithEvent) ?_
            refine Seq.nil ⟨(by repeat (first | exact Part.refl _ | exact Part.nil _ | apply Part.here | apply Part.skip)), ?_⟩
            refine Any.one 8 rfl (by kernel_rfl) ?_
            refine Seq.storeN [_, _, _, _, _, _, _, _, _, _, _, _, _] sz.api_Event (k := ?_)
            refine Seq.nil ⟨(by repeat (first | exact Part.refl _ | exact Part.nil _ | apply Part.here | apply Part.skip)), ?_⟩
            refine Any.done (by kernel_rfl) ?_
            refine JC.reg ?_
            refine Seq.p rfl Ev.move ?_
            refine Seq.p rfl Ev.move ?_
            refine Seq.buildSlN [_] (hsl := sl.sl_uint64) (hz := z.uint64) (k := ?_); intro b64
            refine Seq.append (hsl := sl.sl_uint64) (he := el.uint64) (hsrc := (fun w' hw => Src.box (news := [.int .u64 (eventValueF i l[k]!.tag).1]) sl.sl_uint64 At.z hw rfl (by intro q u hu; cases q with | zero => exact hu | succ q => simp at hu))) (k := ?_); intro A65 c65
            refine Seq.p rfl Ev.assign ?_
            refine Seq.nil ?_
            refine JC.reg ?_
            refine Seq.p rfl Ev.move ?_
            refine Seq.p rfl (by first | exact Ev.inc | exact Ev.add) ?_
            refine Seq.p rfl Ev.assign ?_
            refine Seq.nil ?_
            have hst : evStepF i l[k]! (agn, out) = some (withEventF agn l[k]!.tag (eventValueF i l[k]!.tag).1, out ++ [(eventValueF i l[k]!.tag).1]) := by rw [evStepF, if_neg (by simpa using h37), if_neg (by intro h; omega)]
            rw [hst] at hsn
            refine ⟨(k + 1, A65, c65, withEventF agn l[k]!.tag (eventValueF i l[k]!.tag).1, out ++ [(eventValueF i l[k]!.tag).1]), _, Part.skip (Part.refl _), ⟨Has.mk (by repeat (first | refine Off.upd ?_ rfl | exact Off.mix | refine Off.mix2 ?_ rfl | exact Off.refl)) (allLook_cons (by repeat (first | exact Look.here | apply Look.there (hne := rfl) | exact Look.const | apply Look.mix rfl | exact Look.arg0 | apply Look.args | exact Look.func)) (allLook_cons (by repeat (first | exact Look.here | apply Look.there (hne := rfl) | exact Look.const | apply Look.mix rfl | exact Look.arg0 | apply Look.args | exact Look.func)) allLook_nil)), by simp only [List.flatMap_append]; rfl, by show k + 1 ≤ l.length; omega, hsn, by simp [hol]⟩, by show l.length - (k + 1) < l.length - k; omega⟩
      · try simp only [decide_eq_true_eq, decide_eq_false_iff_not] at h37
        refine Seq.gn rfl rfl rfl rfl ?_
        refine Seq.gn rfl rfl rfl rfl ?_
        refine Seq.gn rfl rfl rfl rfl ?_
        refine Seq.gn rfl rfl rfl rfl ?_
        refine Seq.gn rfl rfl rfl rfl ?_
        refine Seq.gn rfl rfl rfl rfl ?_
        refine Seq.gn rfl rfl rfl rfl ?_
        refine Seq.gu rfl rfl rfl ?_
        refine Seq.gu rfl rfl rfl ?_
        refine Seq.gu rfl rfl rfl ?_
        refine Seq.gu rfl rfl rfl ?_
        refine Seq.gu rfl rfl rfl ?_
        refine Seq.gu rfl rfl rfl ?_
        refine Seq.gu rfl rfl rfl ?_
        refine Seq.gn rfl rfl rfl rfl ?_
        refine Seq.p rfl Ev.pickT ?_
        refine Seq.nil ?_
        refine JC.cT (h := ?_)
        refine JC.rs ?_
        refine Seq.p rfl Ev.assign ?_
        refine Seq.p rfl Ev.assign ?_
        refine Seq.nil ?_
        refine JC.ret ?_
        -- return 1
        show retQ _ _ _ _ _ _ _ _
        refine ret2 (hp := Part.nil _) (hpost := ?_)
        have hst : evStepF i l[k]! (agn, out) = none := by rw [evStepF, if_pos (by simpa using h37)]
        rw [hst] at hsn
        have hE40 : refEvE i = 40 := by rw [hE, evValsGo_none hsn]
        show EvValuesPost _ _ _
        rw [EvValuesPost, if_neg (by rw [hE40]; decide), hE40]
    · -- else_t22
      obtain rfl : k = l.length := by omega
      rw [List.take_length] at hv
      rw [hv] at hE
      dsimp only at hE
      refine JC.exit ?_ -- 0
      refine JC.seq ?_
      refine JC.rs ?_
      refine Seq.p rfl (Ev.ldBA ag.api_Event) ?_
      refine Seq.p rfl (Ev.ldBA ag.api_Event) ?_
      refine Seq.p rfl (Ev.neAg so.api_Event ag.api_Event gd.api_Event) ?_
      refine Seq.nil ?_
      first | refine JC.c (ht := fun c68 => ?_) (hf := fun c68 => ?_) | refine JC.cb (ht := fun c68 => ?_) (hf := fun c68 => ?_)
      · -- then_t68
        have c69 : (!eqL agn.enc i.enc) = true := c68
        rw [Event.eqL_enc] at c69
        have hne : ¬ agn = i := by simpa using c69
        rw [if_neg hne] at hE
        refine JC.rs ?_
        refine Seq.p rfl Ev.assign ?_
        refine Seq.p rfl Ev.assign ?_
        refine Seq.nil ?_
        refine JC.ret ?_
        -- return 2
        show retQ _ _ _ _ _ _ _ _
        refine ret2 (hp := Part.nil _) (hpost := ?_)
        show EvValuesPost _ _ _
        rw [EvValuesPost, if_neg (by rw [hE]; decide), hE]
      · -- else_t68
        have c69 : (!eqL agn.enc i.enc) = false := c68
        rw [Event.eqL_enc] at c69
        have heq : agn = i := of_ndec c69
        rw [if_pos heq] at hE
        refine JC.skip ?_
        refine JC.rs ?_
        refine Seq.p rfl Ev.move ?_
        refine Seq.p rfl Ev.assign ?_
        refine Seq.p rfl Ev.assign ?_
        refine Seq.nil ?_
        refine JC.ret ?_
        -- return 3
        show retQ _ _ _ _ _ _ _ _
        refine ret2 (hp := Part.here (Part.nil _)) (hpost := ?_)
        show EvValuesPost _ _ _
        rw [EvValuesPost, if_pos hE]
        refine ⟨(agn, out), A, cc, hk, by rw [hl]; exact hv, ?_, ?_⟩
        · show _ = Value.tuple #[.slice A out.length cc, _]; rw [hol]
        · show _ = [Chunk.own _ _ (.slice A out.length cc) out.length _]; rw [hol]
theorem refEvValues {w : World} {i : Event} : Spec Go.Proofs.Try.prog 20 #[.agg i.enc.toArray] w [] (EvValuesPost i) := by
  by_cases hk : 1 ≤ i.kind ∧ i.kind ≤ 5
  · exact refEvValues1 hk
  · exact refEvValues0 hk
def refPackEvF (i : Event) : Frame × Int :=
  if refEvE i = 0 then (match evValsGo i (toldRF i.kind) (ev0 i.kind, []) with | some s => laidF (64 + i.kind) (toldRF i.kind) s.2 | none => frame0, 0) else (frame0, refEvE i)
set_option maxHeartbeats 2000000 in
theorem refPackEv0 {w : World} {i : Event} (hE : ¬ refEvE i = 0) : Spec Go.Proofs.Try.prog 9 #[.agg i.enc.toArray] w [] (fun u _ => u = packV (refPackEvF i)) := by
  refine Spec.enter (fn := Go.Proofs.Try.f9) (n := 23) [.agg i.enc.toArray] Go.Proofs.Try.func9 (by kernel_rfl) rfl Go.Proofs.Try.ntmps9 Go.Proofs.Try.results9 rfl (Own.nil _) ?_
  refine JC.rs ?_
  refine Seq.box (cs := [_, _, _, _, _, _, _, _, _, _, _, _, _]) (k := ?_); intro b1
  refine Seq.alloc (cs := [_, _, _, _, _, _, _, _]) (hz := z.api_Frame) (k := ?_); intro b2
  refine Seq.p rfl Ev.assign ?_
  refine Seq.nil ?_
  refine JC.rs ?_
  refine Seq.p rfl (Ev.ldBA ag.api_Event) ?_
  refine Seq.call rfl (fun w hw => refEvValues) (F := _) (by exact List.Perm.refl _) ?_
  intro u N hN
  rw [EvValuesPost, if_neg hE] at hN
  subst hN
  refine Seq.re (fun w h => h.part ⟨N, List.perm_append_comm⟩) ?_
  refine Seq.p rfl Ev.move ?_
  refine Seq.p rfl Ev.extract ?_
  refine Seq.p rfl Ev.extract ?_
  refine Seq.p rfl Ev.assign ?_
  refine Seq.p rfl Ev.assign ?_
  refine Seq.nil ?_
  refine JC.seq ?_
  refine JC.rs ?_
  refine Seq.p rfl Ev.move ?_
  refine Seq.p rfl Ev.ne ?_
  refine Seq.nil ?_
  first | refine JC.c (ht := fun c12 => ?_) (hf := fun c12 => ?_) | refine JC.cb (ht := fun c12 => ?_) (hf := fun c12 => ?_)
  · -- then_t12
    refine JC.rs ?_
    refine Seq.p rfl (Ev.buildN [_, _, _, _, _, _, _, _] pl.api_Frame z.api_Frame) ?_
    refine Seq.p rfl Ev.move ?_
    refine Seq.storeN [_, _, _, _, _, _, _, _] sz.api_Frame (k := ?_)
    refine Seq.p rfl Ev.assign ?_
    refine Seq.nil ?_
    refine JC.ret ?_
    -- return 0
    show retQ _ _ _ _ _ _ _ _
    refine retB2 ag.api_Frame (hp := Part.nil _) (hpost := ?_)
    rw [refPackEvF, if_neg hE]
    rfl
  · -- else_t12
    exact absurd hE c12
set_option maxHeartbeats 4000000 in
set_option maxRecDepth 100000 in
theorem refPackEv1 {w : World} {i : Event} (hE : refEvE i = 0) : Spec Go.Proofs.Try.prog 9 #[.agg i.enc.toArray] w [] (fun u _ => u = packV (refPackEvF i)) := by
  have hsm := toldRF_small i.kind
  refine Spec.enter (fn := Go.Proofs.Try.f9) (n := 23) [.agg i.enc.toArray] Go.Proofs.Try.func9 (by kernel_rfl) rfl Go.Proofs.Try.ntmps9 Go.Proofs.Try.results9 rfl (Own.nil _) ?_
  refine JC.rs ?_
  refine Seq.box (cs := [_, _, _, _, _, _, _, _, _, _, _, _, _]) (k := ?_); intro b1
  refine Seq.alloc (cs := [_, _, _, _, _, _, _, _]) (hz := z.api_Frame) (k := ?_); intro b2
  refine Seq.p rfl Ev.assign ?_
  refine Seq.nil ?_
  refine JC.rs ?_
  refine Seq.p rfl (Ev.ldBA ag.api_Event) ?_
  refine Seq.call rfl (fun w hw => refEvValues) (F := _) (by exact List.Perm.refl _) ?_
  intro u N hN
  rw [EvValuesPost, if_pos hE] at hN
  obtain ⟨s, A, cc, hn0, hv, rfl, rfl⟩ := hN
  have hls : s.2.length = (toldRF i.kind).length := by have := evValsGo_length _ _ _ hv; simpa using this
  obtain ⟨a0, a1, a2, a3, a4, a5, a6, h7⟩ := list7 (laidGo_length (toldRF i.kind) s.2 [0, 0, 0, 0, 0, 0, 0])
  have hL : laidF (64 + i.kind) (toldRF i.kind) s.2 = ⟨(64 + i.kind) % 256, [a0, a1, a2, a3, a4, a5, a6]⟩ := by rw [laidF, h7]
  refine Seq.p rfl Ev.move ?_
  refine Seq.p rfl Ev.extract ?_
  refine Seq.p rfl Ev.extract ?_
  refine Seq.p rfl Ev.assign ?_
  refine Seq.p rfl Ev.assign ?_
  refine Seq.nil ?_
  refine JC.seq ?_
  refine JC.rs ?_
  refine Seq.p rfl Ev.move ?_
  refine Seq.p rfl Ev.ne ?_
  refine Seq.nil ?_
  first | refine JC.c (ht := fun c12 => ?_) (hf := fun c12 => ?_) | refine JC.cb (ht := fun c12 => ?_) (hf := fun c12 => ?_)
  · -- then_t12
    exact absurd rfl c12
  · -- else_t12
    refine JC.skip ?_
    refine JC.asE 1 mixed ?_
    refine Any.p 0 rfl (by kernel_rfl) (by kernel_rfl) (by kernel_rfl) rfl (Ev.faB fd.api_Event_1) ?_
    refine Any.p 1 rfl (by kernel_rfl) (by kernel_rfl) (by kernel_rfl) rfl (Ev.ldB sc.int) ?_
    refine Any.p 2 rfl (by kernel_rfl) (by kernel_rfl) (by kernel_rfl) rfl Ev.add ?_
    refine Any.p 3 rfl (by kernel_rfl) (by kernel_rfl) (by kernel_rfl) rfl (Ev.faB fd.api_Event_1) ?_
    refine Any.p 4 rfl (by kernel_rfl) (by kernel_rfl) (by kernel_rfl) rfl (Ev.ldB sc.int) ?_
    refine Any.p 6 rfl (by kernel_rfl) (by kernel_rfl) (by kernel_rfl) rfl Ev.move ?_
    refine Any.one 5 rfl (by kernel_rfl) ?_
    refine Seq.call rfl (fun w hw => refTold hn0) (F := _) (by exact List.Perm.refl _) ?_
    rintro _ _ ⟨bl, rfl, rfl⟩
    refine Seq.nil ⟨(by repeat (first | exact Part.refl _ | exact Part.nil _ | apply Part.here | apply Part.skip)), ?_⟩
    refine Any.one 7 rfl (by kernel_rfl) ?_
    refine Seq.callP rfl (fun w hw => hL ▸ refLaid (RAt.up (RAt.box (enc := RF.enc) (sz := 4) (hs := by omega)) hw) (RAt.up (RAt.own (enc := uenc) (xs := s.2) (sz := 1) (hs := by omega)) hw) hls (toldRF_words _)) ?_
    refine Seq.nil ⟨(by repeat (first | exact Part.refl _ | exact Part.nil _ | apply Part.here | apply Part.skip)), ?_⟩
    refine Any.one 8 rfl (by kernel_rfl) ?_
    refine Seq.storeN [_, _, _, _, _, _, _, _] sz.api_Frame (k := ?_)
    refine Seq.nil ⟨(by repeat (first | exact Part.refl _ | exact Part.nil _ | apply Part.here | apply Part.skip)), ?_⟩
    refine Any.p 9 rfl (by kernel_rfl) (by kernel_rfl) (by kernel_rfl) rfl Ev.assign ?_
    refine Any.done (by kernel_rfl) ?_
    refine JC.ret ?_
    -- return 0
    show retQ _ _ _ _ _ _ _ _
    refine retB2 ag.api_Frame (hp := Part.nil _) (hpost := ?_)
    rw [refPackEvF, if_pos hE, hv]
    show _ = packV (laidF (64 + i.kind) (toldRF i.kind) s.2, 0)
    rw [hL]
    rfl
theorem refPackEv {w : World} {i : Event} : Spec Go.Proofs.Try.prog 9 #[.agg i.enc.toArray] w [] (fun u _ => u = packV (refPackEvF i)) := by
  by_cases hE : refEvE i = 0
  · exact refPackEv1 hE
  · exact refPackEv0 hE
end Go.Rx
