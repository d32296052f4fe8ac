/- A part of the proof: the text M4. -/
import Derived.Test.YtdfleghechbcpaaM3
namespace Go.Rx
open Go Go.RowKit
set_option linter.unusedVariables false
set_option linter.unusedSimpArgs false
def refFieldsF (k : Int) : List RF :=
  if k = 1 then [⟨11, 0, 0, 0⟩, ⟨1, 4294967295, 2, 0⟩, ⟨54, 255, 2, 32⟩, ⟨40, 255, 2, 40⟩, ⟨44, 4294967295, 3, 0⟩, ⟨38, 0, 4, 0⟩, ⟨210, 0, 5, 0⟩]
  else if k = 2 then [⟨41, 0, 1, 0⟩]
  else if k = 3 then [⟨41, 0, 1, 0⟩, ⟨11, 0, 0, 0⟩, ⟨44, 4294967295, 3, 0⟩, ⟨38, 0, 4, 0⟩, ⟨210, 0, 5, 0⟩]
  else if k = 4 then [⟨9001, 255, 0, 0⟩]
  else []
def RowPost (l : List RF) (u : Value) (N : List Chunk) : Prop := ∃ b, u = .slice (some ⟨b, 0, none⟩) l.length l.length ∧ N = [.box b 65 (l.flatMap RF.enc)]
set_option maxHeartbeats 4000000 in
set_option maxRecDepth 100000 in
theorem refFields {w : World} {k : Int} (hk : 1 ≤ k ∧ k ≤ 4) : Spec Go.Proofs.Try.prog 18 #[.int .i64 k] w [] (RowPost (refFieldsF k)) := by
  refine Spec.enter (fn := Go.Proofs.Try.f18) (n := 40) [.int .i64 k] Go.Proofs.Try.func18 (by kernel_rfl) rfl Go.Proofs.Try.ntmps18 Go.Proofs.Try.results18 rfl (Own.nil _) ?_
  refine JC.rs ?_
  refine Seq.p rfl Ev.assign ?_
  refine Seq.nil ?_
  refine JC.rs ?_
  refine Seq.p rfl (Ev.buildN [_, _, _, _] pl.bourseref04_field z.bourseref04_field) ?_
  refine Seq.p rfl (Ev.buildN [_, _, _, _] pl.bourseref04_field z.bourseref04_field) ?_
  refine Seq.alloc (cs := [_, _, _, _]) (hz := z.bourseref04_field) (k := ?_); intro b3
  refine Seq.alloc (cs := [_, _, _, _]) (hz := z.bourseref04_field) (k := ?_); intro b4
  refine Seq.storeN [_, _, _, _] sz.bourseref04_field (k := ?_)
  refine Seq.storeN [_, _, _, _] sz.bourseref04_field (k := ?_)
  refine Seq.nil ?_
  refine JC.rs ?_
  refine Seq.p rfl (Ev.buildN [_, _, _, _] pl.bourseref04_field z.bourseref04_field) ?_
  refine Seq.p rfl (Ev.buildN [_, _, _, _] pl.bourseref04_field z.bourseref04_field) ?_
  refine Seq.p rfl (Ev.buildN [_, _, _, _] pl.bourseref04_field z.bourseref04_field) ?_
  refine Seq.alloc (cs := [_, _, _, _]) (hz := z.bourseref04_field) (k := ?_); intro b5
  refine Seq.alloc (cs := [_, _, _, _]) (hz := z.bourseref04_field) (k := ?_); intro b6
  refine Seq.alloc (cs := [_, _, _, _]) (hz := z.bourseref04_field) (k := ?_); intro b7
  refine Seq.storeN [_, _, _, _] sz.bourseref04_field (k := ?_)
  refine Seq.storeN [_, _, _, _] sz.bourseref04_field (k := ?_)
  refine Seq.storeN [_, _, _, _] sz.bourseref04_field (k := ?_)
  refine Seq.nil ?_
  refine JC.seq ?_
  refine JC.rs ?_
  refine Seq.p rfl Ev.move ?_
  refine Seq.nil ?_
  refine JC.blk ?_
  refine JC.rs ?_
  refine Seq.p rfl Ev.eq ?_
  refine Seq.p rfl Ev.assign ?_
  refine Seq.nil ?_
  first | refine JC.c (ht := fun c14 => ?_) (hf := fun c14 => ?_) | refine JC.cb (ht := fun c14 => ?_) (hf := fun c14 => ?_)
  · -- then_t14
    refine JC.rs ?_
    refine Seq.p rfl (Ev.ldBA ag.bourseref04_field) ?_
    refine Seq.p rfl (Ev.buildN [_, _, _, _] pl.bourseref04_field z.bourseref04_field) ?_
    refine Seq.p rfl (Ev.buildN [_, _, _, _] pl.bourseref04_field z.bourseref04_field) ?_
    refine Seq.p rfl (Ev.buildN [_, _, _, _] pl.bourseref04_field z.bourseref04_field) ?_
    refine Seq.p rfl (Ev.ldBA ag.bourseref04_field) ?_
    refine Seq.p rfl (Ev.ldBA ag.bourseref04_field) ?_
    refine Seq.p rfl (Ev.ldBA ag.bourseref04_field) ?_
    refine Seq.buildSlN [_, _, _, _, _, _, _, _, _, _, _, _, _, _, _, _, _, _, _, _, _, _, _, _, _, _, _, _] (hsl := sl.sl_bourseref04_field) (hz := z.bourseref04_field) (k := ?_); intro b23
    refine Seq.p rfl Ev.assign ?_
    refine Seq.nil ?_
    refine JC.ret ?_
    -- return 0
    show retQ _ _ _ _ _ _ _ _
    refine ret1 (hp := Part.here (Part.nil _)) (hpost := ?_)
    rw [refFieldsF, if_pos c14]
    exact ⟨_, rfl, rfl⟩
  · -- else_t14
    refine JC.rs ?_
    refine Seq.p rfl Ev.eq ?_
    refine Seq.p rfl Ev.assign ?_
    refine Seq.nil ?_
    first | refine JC.c (ht := fun c24 => ?_) (hf := fun c24 => ?_) | refine JC.cb (ht := fun c24 => ?_) (hf := fun c24 => ?_)
    · -- then_t24
      refine JC.rs ?_
      refine Seq.p rfl (Ev.ldBA ag.bourseref04_field) ?_
      refine Seq.buildSlN [_, _, _, _] (hsl := sl.sl_bourseref04_field) (hz := z.bourseref04_field) (k := ?_); intro b27
      refine Seq.p rfl Ev.assign ?_
      refine Seq.nil ?_
      refine JC.ret ?_
      -- return 1
      show retQ _ _ _ _ _ _ _ _
      refine ret1 (hp := Part.here (Part.nil _)) (hpost := ?_)
      rw [refFieldsF, if_neg c14, if_pos c24]
      exact ⟨_, rfl, rfl⟩
    · -- else_t24
      refine JC.rs ?_
      refine Seq.p rfl Ev.eq ?_
      refine Seq.p rfl Ev.assign ?_
      refine Seq.nil ?_
      first | refine JC.c (ht := fun c28 => ?_) (hf := fun c28 => ?_) | refine JC.cb (ht := fun c28 => ?_) (hf := fun c28 => ?_)
      · -- then_t28
        refine JC.rs ?_
        refine Seq.p rfl (Ev.ldBA ag.bourseref04_field) ?_
        refine Seq.p rfl (Ev.ldBA ag.bourseref04_field) ?_
        refine Seq.p rfl (Ev.ldBA ag.bourseref04_field) ?_
        refine Seq.p rfl (Ev.ldBA ag.bourseref04_field) ?_
        refine Seq.p rfl (Ev.ldBA ag.bourseref04_field) ?_
        refine Seq.buildSlN [_, _, _, _, _, _, _, _, _, _, _, _, _, _, _, _, _, _, _, _] (hsl := sl.sl_bourseref04_field) (hz := z.bourseref04_field) (k := ?_); intro b35
        refine Seq.p rfl Ev.assign ?_
        refine Seq.nil ?_
        refine JC.ret ?_
        -- return 2
        show retQ _ _ _ _ _ _ _ _
        refine ret1 (hp := Part.here (Part.nil _)) (hpost := ?_)
        rw [refFieldsF, if_neg c14, if_neg c24, if_pos c28]
        exact ⟨_, rfl, rfl⟩
      · -- else_t28
        refine JC.rs ?_
        refine Seq.p rfl Ev.eq ?_
        refine Seq.p rfl Ev.assign ?_
        refine Seq.nil ?_
        first | refine JC.c (ht := fun c36 => ?_) (hf := fun c36 => ?_) | refine JC.cb (ht := fun c36 => ?_) (hf := fun c36 => ?_)
        · -- then_t36
          refine JC.rs ?_
          refine Seq.p rfl (Ev.buildN [_, _, _, _] pl.bourseref04_field z.bourseref04_field) ?_
          refine Seq.buildSlN [_, _, _, _] (hsl := sl.sl_bourseref04_field) (hz := z.bourseref04_field) (k := ?_); intro b39
          refine Seq.p rfl Ev.assign ?_
          refine Seq.nil ?_
          refine JC.ret ?_
          -- return 3
          show retQ _ _ _ _ _ _ _ _
          refine ret1 (hp := Part.here (Part.nil _)) (hpost := ?_)
          rw [refFieldsF, if_neg c14, if_neg c24, if_neg c28, if_pos c36]
          exact ⟨_, rfl, rfl⟩
        · -- else_t36
          exfalso; omega
def stepF (i : Input) (f : RF) (s : Input × List Int) : Option (Input × List Int) :=
  if (valueF i f.tag).2 = false then none else if 0 < f.most ∧ f.most < (valueF i f.tag).1 then none else some (withF s.1 f.tag (valueF i f.tag).1, s.2 ++ [(valueF i f.tag).1])
def valsGo (i : Input) : List RF → Input × List Int → Option (Input × List Int)
  | [], s => some s
  | f :: r, s => match stepF i f s with | none => none | some s' => valsGo i r s'
theorem valsGo_append (i : Input) (xs ys : List RF) (s : Input × List Int) : valsGo i (xs ++ ys) s = match valsGo i xs s with | none => none | some s' => valsGo i ys s' := by
  induction xs generalizing s with
  | nil => rfl
  | cons f r ih =>
    simp only [List.cons_append, valsGo]
    cases stepF i f s with
    | none => rfl
    | some s' => exact ih s'
theorem valsGo_snoc {i : Input} {l : List RF} {k : Nat} (hk : k < l.length) {s s' : Input × List Int} (h : valsGo i (l.take k) s = some s') : valsGo i (l.take (k + 1)) s = stepF i l[k]! s' := by
  have : l.take (k + 1) = l.take k ++ [l[k]!] := by
    rw [List.take_succ_eq_append_getElem hk, getElem!_pos l k hk]
  rw [this, valsGo_append, h]
  simp only [valsGo]
  cases stepF i l[k]! s' <;> rfl
theorem valsGo_none {i : Input} {l : List RF} {k : Nat} {s : Input × List Int} (h : valsGo i (l.take k) s = none) : valsGo i l s = none := by
  rw [← List.take_append_drop k l, valsGo_append, h]
def refE (i : Input) : Int :=
  if nameF i = 0 then 41 else match valsGo i (refFieldsF (nameF i)) (bareF (nameF i), []) with | none => 40 | some s => if s.1 = i then 0 else 40
def uenc (n : Int) : List Value := [.int .u64 n]
def ValuesPost (i : Input) (u : Value) (N : List Chunk) : Prop :=
  if refE i = 0 then ∃ s A c, nameF i ≠ 0 ∧ valsGo i (refFieldsF (nameF i)) (bareF (nameF i), []) = some s ∧ u = .tuple #[.slice A s.2.length c, .int .i64 0] ∧ N = [.own 22 1 (.slice A s.2.length c) s.2.length (s.2.flatMap uenc)]
  else u = .tuple #[.slice none 0 0, .int .i64 (refE i)]
theorem nameF_range (i : Input) (h : ¬ nameF i = 0) : 1 ≤ nameF i ∧ nameF i ≤ 4 := by
  unfold nameF at h ⊢
  split
  · omega
  · split
    · omega
    · rename_i h1 h2
      rw [if_neg h1, if_neg h2] at h
      exact absurd rfl h
theorem refFieldsF_small (k : Int) : (refFieldsF k).length ≤ 7 := by
  unfold refFieldsF
  split
  · exact Nat.le_of_ble_eq_true rfl
  · split
    · exact Nat.le_of_ble_eq_true rfl
    · split
      · exact Nat.le_of_ble_eq_true rfl
      · split <;> exact Nat.le_of_ble_eq_true rfl
set_option maxHeartbeats 4000000 in
set_option maxRecDepth 100000 in
theorem refValues {w : World} {i : Input} : Spec Go.Proofs.Try.prog 15 #[.agg i.enc.toArray] w [] (ValuesPost i) := by
  refine Spec.enter (fn := Go.Proofs.Try.f15) (n := 70) [.agg i.enc.toArray] Go.Proofs.Try.func15 (by kernel_rfl) rfl Go.Proofs.Try.ntmps15 Go.Proofs.Try.results15 rfl (Own.nil _) ?_
  refine JC.rs ?_
  refine Seq.box (cs := [_, _, _, _, _, _, _, _, _, _, _]) (k := ?_); intro b1
  refine Seq.p rfl Ev.assign ?_
  refine Seq.p rfl Ev.assign ?_
  refine Seq.nil ?_
  refine JC.rs ?_
  refine Seq.p rfl (Ev.ldBA ag.api_Input) ?_
  refine Seq.callP rfl (fun w hw => refName) ?_
  refine Seq.p rfl Ev.assign ?_
  refine Seq.nil ?_
  refine JC.seq ?_
  refine JC.rs ?_
  refine Seq.p rfl Ev.move ?_
  refine Seq.p rfl Ev.eq ?_
  refine Seq.nil ?_
  first | refine JC.c (ht := fun c14 => ?_) (hf := fun c14 => ?_) | refine JC.cb (ht := fun c14 => ?_) (hf := fun c14 => ?_)
  · -- then_t14
    refine JC.rs ?_
    refine Seq.p rfl Ev.assign ?_
    refine Seq.p rfl Ev.assign ?_
    refine Seq.nil ?_
    refine JC.ret ?_
    -- return 0
    show retQ _ _ _ _ _ _ _ _
    refine ret2 (hp := Part.nil _) (hpost := ?_)
    have hE : refE i = 41 := if_pos c14
    show ValuesPost _ _ _
    rw [ValuesPost, if_neg (by rw [hE]; decide), hE]
  · -- else_t14
    have hr := nameF_range i c14
    have hsm := refFieldsF_small (nameF i)
    have hE : refE i = match valsGo i (refFieldsF (nameF i)) (bareF (nameF i), []) with | none => 40 | some s => if s.1 = i then 0 else 40 := if_neg c14
    generalize hl : refFieldsF (nameF i) = l at hsm hE
    refine JC.skip ?_
    refine JC.rs ?_
    refine Seq.p rfl Ev.move ?_
    refine Seq.call rfl (fun w hw => hl ▸ refFields hr) (F := _) (by exact List.Perm.refl _) ?_
    rintro _ _ ⟨bl, rfl, rfl⟩
    refine Seq.p rfl Ev.assign ?_
    refine Seq.nil ?_
    refine JC.rs ?_
    refine Seq.p rfl Ev.move ?_
    refine Seq.callP rfl (fun w hw => refBare) ?_
    refine Seq.alloc (cs := [_, _, _, _, _, _, _, _, _, _, _]) (hz := z.api_Input) (k := ?_); intro b6
    refine Seq.storeN [_, _, _, _, _, _, _, _, _, _, _] sz.api_Input (k := ?_)
    refine Seq.nil ?_
    refine JC.rs ?_
    refine Seq.p rfl Ev.assign ?_
    refine Seq.re (fun w h => Upd.nilOwn h 22 1) ?_
    refine Seq.nil ?_
    refine JC.seq ?_
    refine JC.rs ?_
    refine Seq.p rfl Ev.assign ?_
    refine Seq.nil ?_
    refine JC.blk ?_
    refine JC.loop (α := Nat × Option Addr × Nat × Input × List Int) (I := fun s e1 H1 => Has [2, 3, 7, 8, 9, 10, 19, 20, 21, 22, 23, 24, 25, 26, 27, 28, 29, 30, 31, 32, 33, 34, 35, 36, 37, 38, 39, 40, 41, 42, 43, 44, 45, 46, 47, 48, 49, 50, 51, 52, 53, 54, 55, 56, 57, 58, 59, 60, 61, 62, 63, 64, 65] [(8, .int .i64 (s.1 : Int)), (7, .slice s.2.1 s.1 s.2.2.1)] _ e1 ∧ H1 = [.own 22 1 (.slice s.2.1 s.1 s.2.2.1) s.1 (s.2.2.2.2.flatMap uenc), .box b6 27 s.2.2.2.1.enc, .box bl 65 (l.flatMap RF.enc), .box b1 27 i.enc] ∧ s.1 ≤ l.length ∧ valsGo i (l.take s.1) (bareF (nameF i), []) = some (s.2.2.2.1, s.2.2.2.2) ∧ s.2.2.2.2.length = s.1) (μ := fun s => l.length - s.1) (0, none, 0, bareF (nameF i), []) ⟨Has.mk Off.refl (allLook_cons (by repeat (first | exact Look.here | apply Look.there (hne := rfl) | exact Look.const | apply Look.mix rfl | exact Look.arg0 | apply Look.args | exact Look.func)) (allLook_cons (by repeat (first | exact Look.here | apply Look.there (hne := rfl) | exact Look.const | apply Look.mix rfl | exact Look.arg0 | apply Look.args | exact Look.func)) allLook_nil)), rfl, by omega, rfl, rfl⟩ ?_
    rintro ⟨k, A, cc, agn, out⟩ _ _ ⟨⟨ui, rfl⟩, rfl, hk, hv, hol⟩; dsimp only [setL]; dsimp only at hk hv hol
    refine JC.seq ?_
    refine JC.rs ?_
    refine Seq.p rfl Ev.move ?_
    refine Seq.p rfl Ev.move ?_
    refine Seq.p rfl (Ev.lenSl sl.sl_bourseref04_field (hr := RAt.box (enc := RF.enc) (sz := 4) (hs := by omega))) ?_
    refine Seq.p rfl Ev.lt ?_
    refine Seq.nil ?_
    first | refine JC.c (ht := fun c22 => ?_) (hf := fun c22 => ?_) | refine JC.cb (ht := fun c22 => ?_) (hf := fun c22 => ?_)
    · -- then_t22
      have hk2 : k < l.length := by omega
      have hsn := valsGo_snoc hk2 hv
      refine JC.skip ?_
      refine JC.seq ?_
      refine JC.blk ?_
      refine JC.qs mixed (by kernel_rfl) ?_
      refine Qui.p rfl (Ev.ldBA ag.api_Input) ?_
      refine Qui.p rfl Ev.move ?_
      refine Qui.p rfl Ev.move ?_
      refine Qui.p rfl (Ev.iaN sl.sl_bourseref04_field (hr := RAt.box (enc := RF.enc) (sz := 4) (hs := by omega))) ?_
      refine Qui.p rfl (Ev.fa fd.bourseref04_field_0) ?_
      refine Qui.p rfl (Ev.ldE sc.int (hr := RAt.box (enc := RF.enc) (sz := 4) (hs := by omega))) ?_
      refine Qui.call rfl (fun w hw => refValue) ?_
      refine Qui.p rfl Ev.move ?_
      refine Qui.p rfl Ev.extract ?_
      refine Qui.p rfl Ev.extract ?_
      refine Qui.p rfl Ev.assign ?_
      refine Qui.p rfl Ev.assign ?_
      refine Qui.nil ?_
      refine JC.seq ?_
      refine JC.rs ?_
      refine Seq.p rfl Ev.move ?_
      refine Seq.p rfl Ev.not ?_
      refine Seq.p rfl Ev.move ?_
      refine Seq.split (d := 37) (k := ?_)
      rintro (_|_) h37
      · try simp only [decide_eq_true_eq, decide_eq_false_iff_not] at h37
        refine Seq.gy rfl rfl rfl ?_
        refine Seq.p rfl Ev.move ?_
        refine Seq.gy rfl rfl rfl ?_
        refine Seq.p rfl Ev.move ?_
        refine Seq.gy rfl rfl rfl ?_
        refine Seq.p rfl (Ev.iaN sl.sl_bourseref04_field (hr := RAt.box (enc := RF.enc) (sz := 4) (hs := by omega))) ?_
        refine Seq.gy rfl rfl rfl ?_
        refine Seq.p rfl (Ev.fa fd.bourseref04_field_1) ?_
        refine Seq.gy rfl rfl rfl ?_
        refine Seq.p rfl (Ev.ldE sc.uint64 (hr := RAt.box (enc := RF.enc) (sz := 4) (hs := by omega))) ?_
        refine Seq.gy rfl rfl rfl ?_
        refine Seq.p rfl Ev.gt ?_
        refine Seq.gy rfl rfl rfl ?_
        refine Seq.p rfl Ev.move ?_
        refine Seq.split (d := 44) (k := ?_)
        rintro (_|_) h44
        · try simp only [decide_eq_true_eq, decide_eq_false_iff_not] at h44
          refine Seq.gn rfl rfl rfl rfl ?_
          refine Seq.gn rfl rfl rfl rfl ?_
          refine Seq.gn rfl rfl rfl rfl ?_
          refine Seq.gn rfl rfl rfl rfl ?_
          refine Seq.gn rfl rfl rfl rfl ?_
          refine Seq.gn rfl rfl rfl rfl ?_
          refine Seq.gn rfl rfl rfl rfl ?_
          refine Seq.gy rfl rfl rfl ?_
          refine Seq.p rfl Ev.pickF ?_
          refine Seq.p rfl Ev.pickF ?_
          refine Seq.nil ?_
          refine JC.cF (h := ?_)
          refine JC.skip ?_
          refine JC.asE 1 mixed ?_
          refine Any.p 1 rfl (by kernel_rfl) (by kernel_rfl) (by kernel_rfl) rfl Ev.move ?_
          refine Any.p 2 rfl (by kernel_rfl) (by kernel_rfl) (by kernel_rfl) rfl Ev.move ?_
          refine Any.p 3 rfl (by kernel_rfl) (by kernel_rfl) (by kernel_rfl) rfl (Ev.iaN sl.sl_bourseref04_field (hr := RAt.box (enc := RF.enc) (sz := 4) (hs := by omega))) ?_
          refine Any.p 4 rfl (by kernel_rfl) (by kernel_rfl) (by kernel_rfl) rfl (Ev.fa fd.bourseref04_field_0) ?_
          refine Any.p 5 rfl (by kernel_rfl) (by kernel_rfl) (by kernel_rfl) rfl (Ev.ldE sc.int (hr := RAt.box (enc := RF.enc) (sz := 4) (hs := by omega))) ?_
          refine Any.p 6 rfl (by kernel_rfl) (by kernel_rfl) (by kernel_rfl) rfl Ev.move ?_
          refine Any.one 0 rfl (by kernel_rfl) ?_
          refine Seq.p rfl (Ev.ldBA ag.api_Input) ?_
          refine Seq.nil ⟨(by repeat (first | exact Part.refl _ | exact Part.nil _ | apply Part.here | apply Part.skip)), ?_⟩
          refine Any.one 7 rfl (by kernel_rfl) ?_
          refine Seq.callP rfl (fun w hw => refWith) ?_
          refine Seq.nil ⟨(by repeat (first | exact Part.refl _ | exact Part.nil _ | apply Part.here | apply Part.skip)), ?_⟩
          refine Any.one 8 rfl (by kernel_rfl) ?_
          refine Seq.storeN [_, _, _, _, _, _, _, _, _, _, _] sz.api_Input (k := ?_)
          refine Seq.nil ⟨(by repeat (first | exact Part.refl _ | exact Part.nil _ | apply Part.here | apply Part.skip)), ?_⟩
          refine Any.done (by kernel_rfl) ?_
          refine JC.reg ?_
          refine Seq.p rfl Ev.move ?_
          refine Seq.p rfl Ev.move ?_
          refine Seq.buildSlN [_] (hsl := sl.sl_uint64) (hz := z.uint64) (k := ?_); intro b64
          refine Seq.append (hsl := sl.sl_uint64) (he := el.uint64) (hsrc := (fun w' hw => Src.box (news := [.int .u64 (valueF i l[k]!.tag).1]) sl.sl_uint64 At.z hw rfl (by intro q u hu; cases q with | zero => exact hu | succ q => simp at hu))) (k := ?_); intro A65 c65
          refine Seq.p rfl Ev.assign ?_
          refine Seq.nil ?_
          refine JC.reg ?_
          refine Seq.p rfl Ev.move ?_
          refine Seq.p rfl (by first | exact Ev.inc | exact Ev.add) ?_
          refine Seq.p rfl Ev.assign ?_
          refine Seq.nil ?_
          have hst : stepF i l[k]! (agn, out) = some (withF agn l[k]!.tag (valueF i l[k]!.tag).1, out ++ [(valueF i l[k]!.tag).1]) := by rw [stepF, if_neg (by simpa using h37), if_neg (by intro h; omega)]
          rw [hst] at hsn
          refine ⟨(k + 1, A65, c65, withF agn l[k]!.tag (valueF i l[k]!.tag).1, out ++ [(valueF i l[k]!.tag).1]), _, Part.skip (Part.refl _), ⟨Has.mk (by repeat (first | refine Off.upd ?_ rfl | exact Off.mix | refine Off.mix2 ?_ rfl | exact Off.refl)) (allLook_cons (by repeat (first | exact Look.here | apply Look.there (hne := rfl) | exact Look.const | apply Look.mix rfl | exact Look.arg0 | apply Look.args | exact Look.func)) (allLook_cons (by repeat (first | exact Look.here | apply Look.there (hne := rfl) | exact Look.const | apply Look.mix rfl | exact Look.arg0 | apply Look.args | exact Look.func)) allLook_nil)), by simp only [List.flatMap_append]; rfl, by show k + 1 ≤ l.length; omega, hsn, by simp [hol]⟩, by show l.length - (k + 1) < l.length - k; omega⟩
        · try simp only [decide_eq_true_eq, decide_eq_false_iff_not] at h44
          refine Seq.gy rfl rfl rfl ?_
          refine Seq.p rfl Ev.move ?_
          refine Seq.gy rfl rfl rfl ?_
          refine Seq.p rfl Ev.move ?_
          refine Seq.gy rfl rfl rfl ?_
          refine Seq.p rfl Ev.move ?_
          refine Seq.gy rfl rfl rfl ?_
          refine Seq.p rfl (Ev.iaN sl.sl_bourseref04_field (hr := RAt.box (enc := RF.enc) (sz := 4) (hs := by omega))) ?_
          refine Seq.gy rfl rfl rfl ?_
          refine Seq.p rfl (Ev.fa fd.bourseref04_field_1) ?_
          refine Seq.gy rfl rfl rfl ?_
          refine Seq.p rfl (Ev.ldE sc.uint64 (hr := RAt.box (enc := RF.enc) (sz := 4) (hs := by omega))) ?_
          refine Seq.gy rfl rfl rfl ?_
          refine Seq.p rfl Ev.gt ?_
          refine Seq.gy rfl rfl rfl ?_
          refine Seq.p rfl Ev.pickT ?_
          refine Seq.p rfl Ev.pickF ?_
          refine Seq.nil ?_
          first | refine JC.c (ht := fun c53 => ?_) (hf := fun c53 => ?_) | refine JC.cb (ht := fun c53 => ?_) (hf := fun c53 => ?_)
          · -- then_t53
            refine JC.rs ?_
            refine Seq.p rfl Ev.assign ?_
            refine Seq.p rfl Ev.assign ?_
            refine Seq.nil ?_
            refine JC.ret ?_
            -- return 1
            show retQ _ _ _ _ _ _ _ _
            refine ret2 (hp := Part.nil _) (hpost := ?_)
            have hst : stepF i l[k]! (agn, out) = none := by rw [stepF, if_neg (by simpa using h37), if_pos (by constructor <;> omega)]
            rw [hst] at hsn
            have hE40 : refE i = 40 := by rw [hE, valsGo_none hsn]
            show ValuesPost _ _ _
            rw [ValuesPost, if_neg (by rw [hE40]; decide), hE40]
          · -- else_t53
            refine JC.skip ?_
            refine JC.asE 1 mixed ?_
            refine Any.p 1 rfl (by kernel_rfl) (by kernel_rfl) (by kernel_rfl) rfl Ev.move ?_
            refine Any.p 2 rfl (by kernel_rfl) (by kernel_rfl) (by kernel_rfl) rfl Ev.move ?_
            refine Any.p 3 rfl (by kernel_rfl) (by kernel_rfl) (by kernel_rfl) rfl (Ev.iaN sl.sl_bourseref04_field (hr := RAt.box (enc := RF.enc) (sz := 4) (hs := by omega))) ?_
            refine Any.p 4 rfl (by kernel_rfl) (by kernel_rfl) (by kernel_rfl) rfl (Ev.fa fd.bourseref04_field_0) ?_
            refine Any.p 5 rfl (by kernel_rfl) (by kernel_rfl) (by kernel_rfl) rfl (Ev.ldE sc.int (hr := RAt.box (enc := RF.enc) (sz := 4) (hs := by omega))) ?_
            refine Any.p 6 rfl (by kernel_rfl) (by kernel_rfl) (by kernel_rfl) rfl Ev.move ?_
            refine Any.one 0 rfl (by kernel_rfl) ?_
            refine Seq.p rfl (Ev.ldBA ag.api_Input) ?_
            refine Seq.nil ⟨(by repeat (first | exact Part.refl _ | exact Part.nil _ | apply Part.here | apply Part.skip)), ?_⟩
            refine Any.one 7 rfl (by kernel_rfl) ?_
            refine Seq.callP rfl (fun w hw => refWith) ?_
            refine Seq.nil ⟨(by repeat (first | exact Part.refl _ | exact Part.nil _ | apply Part.here | apply Part.skip)), ?_⟩
            refine Any.one 8 rfl (by kernel_rfl) ?_
            refine Seq.storeN [_, _, _, _, _, _, _, _, _, _, _] sz.api_Input (k := ?_)
            refine Seq.nil ⟨(by repeat (first | exact Part.refl _ | exact Part.nil _ | apply Part.here | apply Part.skip)), ?_⟩
            refine Any.done (by kernel_rfl) ?_
            refine JC.reg ?_
            refine Seq.p rfl Ev.move ?_
            refine Seq.p rfl Ev.move ?_
            refine Seq.buildSlN [_] (hsl := sl.sl_uint64) (hz := z.uint64) (k := ?_); intro b64
            refine Seq.append (hsl := sl.sl_uint64) (he := el.uint64) (hsrc := (fun w' hw => Src.box (news := [.int .u64 (valueF i l[k]!.tag).1]) sl.sl_uint64 At.z hw rfl (by intro q u hu; cases q with | zero => exact hu | succ q => simp at hu))) (k := ?_); intro A65 c65
            refine Seq.p rfl Ev.assign ?_
            refine Seq.nil ?_
            refine JC.reg ?_
            refine Seq.p rfl Ev.move ?_
            refine Seq.p rfl (by first | exact Ev.inc | exact Ev.add) ?_
            refine Seq.p rfl Ev.assign ?_
            refine Seq.nil ?_
            have hst : stepF i l[k]! (agn, out) = some (withF agn l[k]!.tag (valueF i l[k]!.tag).1, out ++ [(valueF i l[k]!.tag).1]) := by rw [stepF, if_neg (by simpa using h37), if_neg (by intro h; omega)]
            rw [hst] at hsn
            refine ⟨(k + 1, A65, c65, withF agn l[k]!.tag (valueF i l[k]!.tag).1, out ++ [(valueF i l[k]!.tag).1]), _, Part.skip (Part.refl _), ⟨Has.mk (by repeat (first | refine Off.upd ?_ rfl | exact Off.mix | refine Off.mix2 ?_ rfl | exact Off.refl)) (allLook_cons (by repeat (first | exact Look.here | apply Look.there (hne := rfl) | exact Look.const | apply Look.mix rfl | exact Look.arg0 | apply Look.args | exact Look.func)) (allLook_cons (by repeat (first | exact Look.here | apply Look.there (hne := rfl) | exact Look.const | apply Look.mix rfl | exact Look.arg0 | apply Look.args | exact Look.func)) allLook_nil)), by simp only [List.flatMap_append]; rfl, by show k + 1 ≤ l.length; omega, hsn, by simp [hol]⟩, by show l.length - (k + 1) < l.length - k; omega⟩
      · try simp only [decide_eq_true_eq, decide_eq_false_iff_not] at h37
        refine Seq.gn rfl rfl rfl rfl ?_
        refine Seq.gn rfl rfl rfl rfl ?_
        refine Seq.gn rfl rfl rfl rfl ?_
        refine Seq.gn rfl rfl rfl rfl ?_
        refine Seq.gn rfl rfl rfl rfl ?_
        refine Seq.gn rfl rfl rfl rfl ?_
        refine Seq.gn rfl rfl rfl rfl ?_
        refine Seq.gu rfl rfl rfl ?_
        refine Seq.gu rfl rfl rfl ?_
        refine Seq.gu rfl rfl rfl ?_
        refine Seq.gu rfl rfl rfl ?_
        refine Seq.gu rfl rfl rfl ?_
        refine Seq.gu rfl rfl rfl ?_
        refine Seq.gu rfl rfl rfl ?_
        refine Seq.gn rfl rfl rfl rfl ?_
        refine Seq.p rfl Ev.pickT ?_
        refine Seq.nil ?_
        refine JC.cT (h := ?_)
        refine JC.rs ?_
        refine Seq.p rfl Ev.assign ?_
        refine Seq.p rfl Ev.assign ?_
        refine Seq.nil ?_
        refine JC.ret ?_
        -- return 2
        show retQ _ _ _ _ _ _ _ _
        refine ret2 (hp := Part.nil _) (hpost := ?_)
        have hst : stepF i l[k]! (agn, out) = none := by rw [stepF, if_pos (by simpa using h37)]
        rw [hst] at hsn
        have hE40 : refE i = 40 := by rw [hE, valsGo_none hsn]
        show ValuesPost _ _ _
        rw [ValuesPost, if_neg (by rw [hE40]; decide), hE40]
    · -- else_t22
      obtain rfl : k = l.length := by omega
      rw [List.take_length] at hv
      rw [hv] at hE
      dsimp only at hE
      refine JC.exit ?_ -- 0
      refine JC.seq ?_
      refine JC.rs ?_
      refine Seq.p rfl (Ev.ldBA ag.api_Input) ?_
      refine Seq.p rfl (Ev.ldBA ag.api_Input) ?_
      refine Seq.p rfl (Ev.neAg so.api_Input ag.api_Input gd.api_Input) ?_
      refine Seq.nil ?_
      first | refine JC.c (ht := fun c68 => ?_) (hf := fun c68 => ?_) | refine JC.cb (ht := fun c68 => ?_) (hf := fun c68 => ?_)
      · -- then_t68
        have c69 : (!eqL agn.enc i.enc) = true := c68
        rw [Input.eqL_enc] at c69
        have hne : ¬ agn = i := by simpa using c69
        rw [if_neg hne] at hE
        refine JC.rs ?_
        refine Seq.p rfl Ev.assign ?_
        refine Seq.p rfl Ev.assign ?_
        refine Seq.nil ?_
        refine JC.ret ?_
        -- return 3
        show retQ _ _ _ _ _ _ _ _
        refine ret2 (hp := Part.nil _) (hpost := ?_)
        show ValuesPost _ _ _
        rw [ValuesPost, if_neg (by rw [hE]; decide), hE]
      · -- else_t68
        have c69 : (!eqL agn.enc i.enc) = false := c68
        rw [Input.eqL_enc] at c69
        have heq : agn = i := by simpa using c69
        rw [if_pos heq] at hE
        refine JC.skip ?_
        refine JC.rs ?_
        refine Seq.p rfl Ev.move ?_
        refine Seq.p rfl Ev.assign ?_
        refine Seq.p rfl Ev.assign ?_
        refine Seq.nil ?_
        refine JC.ret ?_
        -- return 4
        show retQ _ _ _ _ _ _ _ _
        refine ret2 (hp := Part.here (Part.nil _)) (hpost := ?_)
        show ValuesPost _ _ _
        rw [ValuesPost, if_pos hE]
        refine ⟨(agn, out), A, cc, c14, by rw [hl]; exact hv, ?_, ?_⟩
        · show _ = Value.tuple #[.slice A out.length cc, _]; rw [hol]
        · show _ = [Chunk.own _ _ (.slice A out.length cc) out.length _]; rw [hol]
end Go.Rx
