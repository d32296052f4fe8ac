/- A part of the proof: the text M2. -/
import Derived.Test.YtdfleghechbcpaaM1
namespace Go.Rx
open Go Go.RowKit
set_option linter.unusedVariables false
set_option linter.unusedSimpArgs false
def fieldsF (i : Input) : Option (Int × ByteArray × List Fld) :=
  if i.kind = 2 then some (4, ⟨#[85, 69]⟩, [upToF 9001 i.engine 255])
  else if i.kind ≠ 1 then none
  else if i.ckind = 1 then some (1, ⟨#[68]⟩, [wholeF 11 i.id, wholeF 1 (i.member % 18446744073709551616), upToF 54 i.side 255, upToF 40 i.type 255, upToF 44 i.price 4294967295, wholeF 38 i.qty, wholeF 210 i.peak])
  else if i.ckind = 2 then some (2, ⟨#[70]⟩, [wholeF 41 i.target])
  else if i.ckind = 3 then some (3, ⟨#[71]⟩, [wholeF 41 i.target, wholeF 11 i.id, upToF 44 i.price 4294967295, wholeF 38 i.qty, wholeF 210 i.peak])
  else none
def FieldsPost (o : Option (Int × ByteArray × List Fld)) (u : Value) (N : List Chunk) : Prop :=
  match o with
  | none => u = .tuple #[.int .u8 0, .string ⟨#[]⟩, .slice none 0 0, .bool false]
  | some (k, s, fs) => ∃ b, u = .tuple #[.int .u8 k, .string s, .slice (some ⟨b, 0, none⟩) fs.length fs.length, .bool true] ∧ N = [.box b 79 (fs.flatMap Fld.enc)]
set_option maxHeartbeats 4000000 in
set_option maxRecDepth 100000 in
theorem msgFieldsOf {w : World} {i : Input} : Spec Go.Proofs.Try.prog 31 #[.agg i.enc.toArray] w [] (FieldsPost (fieldsF i)) := by
  refine Spec.enter (fn := Go.Proofs.Try.f31) (n := 76) [.agg i.enc.toArray] Go.Proofs.Try.func31 (by kernel_rfl) rfl Go.Proofs.Try.ntmps31 Go.Proofs.Try.results31 rfl (Own.nil _) ?_
  refine JC.rs ?_
  refine Seq.box (cs := [_, _, _, _, _, _, _, _, _, _, _]) (k := ?_); intro b1
  refine Seq.p rfl Ev.assign ?_
  refine Seq.p rfl Ev.assign ?_
  refine Seq.p rfl Ev.assign ?_
  refine Seq.p rfl Ev.assign ?_
  refine Seq.nil ?_
  refine JC.rs ?_
  refine Seq.p rfl (Ev.faB fd.api_Input_1) ?_
  refine Seq.p rfl (Ev.ldBPN [_, _, _, _, _, _, _, _, _] ag.api_Command) ?_
  refine Seq.alloc (cs := [_, _, _, _, _, _, _, _, _]) (hz := z.api_Command) (k := ?_); intro b6
  refine Seq.storeN [_, _, _, _, _, _, _, _, _] sz.api_Command (k := ?_)
  refine Seq.nil ?_
  refine JC.seq ?_
  refine JC.blk ?_
  refine JC.rs ?_
  refine Seq.p rfl (Ev.faB fd.api_Input_0) ?_
  refine Seq.p rfl (Ev.ldB sc.int) ?_
  refine Seq.p rfl Ev.eq ?_
  refine Seq.p rfl Ev.assign ?_
  refine Seq.nil ?_
  first | refine JC.c (ht := fun c9 => ?_) (hf := fun c9 => ?_) | refine JC.cb (ht := fun c9 => ?_) (hf := fun c9 => ?_)
  · -- then_t9
    refine JC.rs ?_
    refine Seq.p rfl (Ev.faB fd.api_Input_2) ?_
    refine Seq.p rfl (Ev.ldB sc.int) ?_
    refine Seq.callP rfl (fun w hw => msgUpTo) ?_
    refine Seq.buildSlN [_, _, _] (hsl := sl.sl_message_field) (hz := z.message_field) (k := ?_); intro b16
    refine Seq.p rfl Ev.assign ?_
    refine Seq.p rfl Ev.assign ?_
    refine Seq.p rfl Ev.assign ?_
    refine Seq.p rfl Ev.assign ?_
    refine Seq.nil ?_
    refine JC.ret ?_
    -- return 0
    show retQ _ _ _ _ _ _ _ _
    refine retI (RVs.t (hs := (RVs.t (hs := (RVs.t (hs := (RVs.t (hs := RVs.nil)))))))) (Part.here (Part.nil _)) ?_
    have hF : fieldsF i = some (4, ⟨#[85, 69]⟩, [upToF 9001 i.engine 255]) := by simp only [fieldsF, *, if_true, if_false]
    rw [hF]
    exact ⟨_, rfl, rfl⟩
  · -- else_t9
    refine JC.rs ?_
    refine Seq.p rfl (Ev.faB fd.api_Input_0) ?_
    refine Seq.p rfl (Ev.ldB sc.int) ?_
    refine Seq.p rfl Ev.ne ?_
    refine Seq.p rfl Ev.assign ?_
    refine Seq.nil ?_
    first | refine JC.c (ht := fun c17 => ?_) (hf := fun c17 => ?_) | refine JC.cb (ht := fun c17 => ?_) (hf := fun c17 => ?_)
    · -- then_t17
      refine JC.skip ?_
      refine JC.rs ?_
      refine Seq.p rfl Ev.assign ?_
      refine Seq.p rfl Ev.assign ?_
      refine Seq.p rfl Ev.assign ?_
      refine Seq.p rfl Ev.assign ?_
      refine Seq.nil ?_
      refine JC.ret ?_
      -- return 1
      show retQ _ _ _ _ _ _ _ _
      refine retI (RVs.t (hs := (RVs.t (hs := (RVs.t (hs := (RVs.t (hs := RVs.nil)))))))) (Part.nil _) ?_
      have hF : fieldsF i = none := by simp only [fieldsF, *, if_true, if_false, ne_eq, not_false_eq_true]
      rw [hF]
      rfl
    · -- else_t17
      refine JC.rs ?_
      refine Seq.p rfl (Ev.faB fd.api_Command_0) ?_
      refine Seq.p rfl (Ev.ldB sc.int) ?_
      refine Seq.p rfl Ev.eq ?_
      refine Seq.p rfl Ev.assign ?_
      refine Seq.nil ?_
      first | refine JC.c (ht := fun c21 => ?_) (hf := fun c21 => ?_) | refine JC.cb (ht := fun c21 => ?_) (hf := fun c21 => ?_)
      · -- then_t21
        refine JC.as mixed ?_
        refine Any.p 0 rfl (by kernel_rfl) (by kernel_rfl) (by kernel_rfl) rfl (Ev.faB fd.api_Command_1) ?_
        refine Any.p 1 rfl (by kernel_rfl) (by kernel_rfl) (by kernel_rfl) rfl (Ev.ldB sc.uint64) ?_
        refine Any.p 3 rfl (by kernel_rfl) (by kernel_rfl) (by kernel_rfl) rfl (Ev.faB fd.api_Command_3) ?_
        refine Any.p 4 rfl (by kernel_rfl) (by kernel_rfl) (by kernel_rfl) rfl (Ev.ldB sc.uint32) ?_
        refine Any.p 5 rfl (by kernel_rfl) (by kernel_rfl) (by kernel_rfl) rfl (Ev.convU64W it.uint32 it.uint64) ?_
        refine Any.p 7 rfl (by kernel_rfl) (by kernel_rfl) (by kernel_rfl) rfl (Ev.faB fd.api_Command_4) ?_
        refine Any.p 8 rfl (by kernel_rfl) (by kernel_rfl) (by kernel_rfl) rfl (Ev.ldB sc.int) ?_
        refine Any.p 10 rfl (by kernel_rfl) (by kernel_rfl) (by kernel_rfl) rfl (Ev.faB fd.api_Command_5) ?_
        refine Any.p 11 rfl (by kernel_rfl) (by kernel_rfl) (by kernel_rfl) rfl (Ev.ldB sc.int) ?_
        refine Any.p 13 rfl (by kernel_rfl) (by kernel_rfl) (by kernel_rfl) rfl (Ev.faB fd.api_Command_6) ?_
        refine Any.p 14 rfl (by kernel_rfl) (by kernel_rfl) (by kernel_rfl) rfl (Ev.ldB sc.int) ?_
        refine Any.p 16 rfl (by kernel_rfl) (by kernel_rfl) (by kernel_rfl) rfl (Ev.faB fd.api_Command_7) ?_
        refine Any.p 17 rfl (by kernel_rfl) (by kernel_rfl) (by kernel_rfl) rfl (Ev.ldB sc.uint64) ?_
        refine Any.p 19 rfl (by kernel_rfl) (by kernel_rfl) (by kernel_rfl) rfl (Ev.faB fd.api_Command_8) ?_
        refine Any.p 20 rfl (by kernel_rfl) (by kernel_rfl) (by kernel_rfl) rfl (Ev.ldB sc.uint64) ?_
        refine Any.one 2 rfl (by kernel_rfl) ?_
        refine Seq.callP rfl (fun w hw => msgWhole) ?_
        refine Seq.nil ⟨(by repeat (first | exact Part.refl _ | exact Part.nil _ | apply Part.here | apply Part.skip)), ?_⟩
        refine Any.one 6 rfl (by kernel_rfl) ?_
        refine Seq.callP rfl (fun w hw => msgWhole) ?_
        refine Seq.nil ⟨(by repeat (first | exact Part.refl _ | exact Part.nil _ | apply Part.here | apply Part.skip)), ?_⟩
        refine Any.one 9 rfl (by kernel_rfl) ?_
        refine Seq.callP rfl (fun w hw => msgUpTo) ?_
        refine Seq.nil ⟨(by repeat (first | exact Part.refl _ | exact Part.nil _ | apply Part.here | apply Part.skip)), ?_⟩
        refine Any.one 12 rfl (by kernel_rfl) ?_
        refine Seq.callP rfl (fun w hw => msgUpTo) ?_
        refine Seq.nil ⟨(by repeat (first | exact Part.refl _ | exact Part.nil _ | apply Part.here | apply Part.skip)), ?_⟩
        refine Any.one 15 rfl (by kernel_rfl) ?_
        refine Seq.callP rfl (fun w hw => msgUpTo) ?_
        refine Seq.nil ⟨(by repeat (first | exact Part.refl _ | exact Part.nil _ | apply Part.here | apply Part.skip)), ?_⟩
        refine Any.one 18 rfl (by kernel_rfl) ?_
        refine Seq.callP rfl (fun w hw => msgWhole) ?_
        refine Seq.nil ⟨(by repeat (first | exact Part.refl _ | exact Part.nil _ | apply Part.here | apply Part.skip)), ?_⟩
        refine Any.one 21 rfl (by kernel_rfl) ?_
        refine Seq.callP rfl (fun w hw => msgWhole) ?_
        refine Seq.nil ⟨(by repeat (first | exact Part.refl _ | exact Part.nil _ | apply Part.here | apply Part.skip)), ?_⟩
        refine Any.p 23 rfl (by kernel_rfl) (by kernel_rfl) (by kernel_rfl) rfl Ev.assign ?_
        refine Any.p 24 rfl (by kernel_rfl) (by kernel_rfl) (by kernel_rfl) rfl Ev.assign ?_
        refine Any.one 22 rfl (by kernel_rfl) ?_
        refine Seq.buildSlN [_, _, _, _, _, _, _, _, _, _, _, _, _, _, _, _, _, _, _, _, _] (hsl := sl.sl_message_field) (hz := z.message_field) (k := ?_); intro b47
        refine Seq.nil ⟨(by repeat (first | exact Part.refl _ | exact Part.nil _ | apply Part.here | apply Part.skip)), ?_⟩
        refine Any.p 25 rfl (by kernel_rfl) (by kernel_rfl) (by kernel_rfl) rfl Ev.assign ?_
        refine Any.p 26 rfl (by kernel_rfl) (by kernel_rfl) (by kernel_rfl) rfl Ev.assign ?_
        refine Any.done (by kernel_rfl) ?_
        refine JC.ret ?_
        -- return 2
        show retQ _ _ _ _ _ _ _ _
        refine retI (RVs.t (hs := (RVs.t (hs := (RVs.t (hs := (RVs.t (hs := RVs.nil)))))))) (Part.here (Part.nil _)) ?_
        have hF : fieldsF i = some (1, ⟨#[68]⟩, [wholeF 11 i.id, wholeF 1 (i.member % 18446744073709551616), upToF 54 i.side 255, upToF 40 i.type 255, upToF 44 i.price 4294967295, wholeF 38 i.qty, wholeF 210 i.peak]) := by rw [fieldsF, if_neg c9, if_neg c17, if_pos c21]
        rw [hF]
        exact ⟨_, rfl, rfl⟩
      · -- else_t21
        refine JC.rs ?_
        refine Seq.p rfl (Ev.faB fd.api_Command_0) ?_
        refine Seq.p rfl (Ev.ldB sc.int) ?_
        refine Seq.p rfl Ev.eq ?_
        refine Seq.p rfl Ev.assign ?_
        refine Seq.nil ?_
        first | refine JC.c (ht := fun c48 => ?_) (hf := fun c48 => ?_) | refine JC.cb (ht := fun c48 => ?_) (hf := fun c48 => ?_)
        · -- then_t48
          refine JC.rs ?_
          refine Seq.p rfl (Ev.faB fd.api_Command_2) ?_
          refine Seq.p rfl (Ev.ldB sc.uint64) ?_
          refine Seq.callP rfl (fun w hw => msgWhole) ?_
          refine Seq.buildSlN [_, _, _] (hsl := sl.sl_message_field) (hz := z.message_field) (k := ?_); intro b55
          refine Seq.p rfl Ev.assign ?_
          refine Seq.p rfl Ev.assign ?_
          refine Seq.p rfl Ev.assign ?_
          refine Seq.p rfl Ev.assign ?_
          refine Seq.nil ?_
          refine JC.ret ?_
          -- return 3
          show retQ _ _ _ _ _ _ _ _
          refine retI (RVs.t (hs := (RVs.t (hs := (RVs.t (hs := (RVs.t (hs := RVs.nil)))))))) (Part.here (Part.nil _)) ?_
          have hF : fieldsF i = some (2, ⟨#[70]⟩, [wholeF 41 i.target]) := by rw [fieldsF, if_neg c9, if_neg c17, if_neg c21, if_pos c48]
          rw [hF]
          exact ⟨_, rfl, rfl⟩
        · -- else_t48
          refine JC.rs ?_
          refine Seq.p rfl (Ev.faB fd.api_Command_0) ?_
          refine Seq.p rfl (Ev.ldB sc.int) ?_
          refine Seq.p rfl Ev.eq ?_
          refine Seq.p rfl Ev.assign ?_
          refine Seq.nil ?_
          first | refine JC.c (ht := fun c56 => ?_) (hf := fun c56 => ?_) | refine JC.cb (ht := fun c56 => ?_) (hf := fun c56 => ?_)
          · -- then_t56
            refine JC.as mixed ?_
            refine Any.p 0 rfl (by kernel_rfl) (by kernel_rfl) (by kernel_rfl) rfl (Ev.faB fd.api_Command_2) ?_
            refine Any.p 1 rfl (by kernel_rfl) (by kernel_rfl) (by kernel_rfl) rfl (Ev.ldB sc.uint64) ?_
            refine Any.p 3 rfl (by kernel_rfl) (by kernel_rfl) (by kernel_rfl) rfl (Ev.faB fd.api_Command_1) ?_
            refine Any.p 4 rfl (by kernel_rfl) (by kernel_rfl) (by kernel_rfl) rfl (Ev.ldB sc.uint64) ?_
            refine Any.p 6 rfl (by kernel_rfl) (by kernel_rfl) (by kernel_rfl) rfl (Ev.faB fd.api_Command_6) ?_
            refine Any.p 7 rfl (by kernel_rfl) (by kernel_rfl) (by kernel_rfl) rfl (Ev.ldB sc.int) ?_
            refine Any.p 9 rfl (by kernel_rfl) (by kernel_rfl) (by kernel_rfl) rfl (Ev.faB fd.api_Command_7) ?_
            refine Any.p 10 rfl (by kernel_rfl) (by kernel_rfl) (by kernel_rfl) rfl (Ev.ldB sc.uint64) ?_
            refine Any.p 12 rfl (by kernel_rfl) (by kernel_rfl) (by kernel_rfl) rfl (Ev.faB fd.api_Command_8) ?_
            refine Any.p 13 rfl (by kernel_rfl) (by kernel_rfl) (by kernel_rfl) rfl (Ev.ldB sc.uint64) ?_
            refine Any.one 2 rfl (by kernel_rfl) ?_
            refine Seq.callP rfl (fun w hw => msgWhole) ?_
            refine Seq.nil ⟨(by repeat (first | exact Part.refl _ | exact Part.nil _ | apply Part.here | apply Part.skip)), ?_⟩
            refine Any.one 5 rfl (by kernel_rfl) ?_
            refine Seq.callP rfl (fun w hw => msgWhole) ?_
            refine Seq.nil ⟨(by repeat (first | exact Part.refl _ | exact Part.nil _ | apply Part.here | apply Part.skip)), ?_⟩
            refine Any.one 8 rfl (by kernel_rfl) ?_
            refine Seq.callP rfl (fun w hw => msgUpTo) ?_
            refine Seq.nil ⟨(by repeat (first | exact Part.refl _ | exact Part.nil _ | apply Part.here | apply Part.skip)), ?_⟩
            refine Any.one 11 rfl (by kernel_rfl) ?_
            refine Seq.callP rfl (fun w hw => msgWhole) ?_
            refine Seq.nil ⟨(by repeat (first | exact Part.refl _ | exact Part.nil _ | apply Part.here | apply Part.skip)), ?_⟩
            refine Any.one 14 rfl (by kernel_rfl) ?_
            refine Seq.callP rfl (fun w hw => msgWhole) ?_
            refine Seq.nil ⟨(by repeat (first | exact Part.refl _ | exact Part.nil _ | apply Part.here | apply Part.skip)), ?_⟩
            refine Any.p 16 rfl (by kernel_rfl) (by kernel_rfl) (by kernel_rfl) rfl Ev.assign ?_
            refine Any.p 17 rfl (by kernel_rfl) (by kernel_rfl) (by kernel_rfl) rfl Ev.assign ?_
            refine Any.one 15 rfl (by kernel_rfl) ?_
            refine Seq.buildSlN [_, _, _, _, _, _, _, _, _, _, _, _, _, _, _] (hsl := sl.sl_message_field) (hz := z.message_field) (k := ?_); intro b75
            refine Seq.nil ⟨(by repeat (first | exact Part.refl _ | exact Part.nil _ | apply Part.here | apply Part.skip)), ?_⟩
            refine Any.p 18 rfl (by kernel_rfl) (by kernel_rfl) (by kernel_rfl) rfl Ev.assign ?_
            refine Any.p 19 rfl (by kernel_rfl) (by kernel_rfl) (by kernel_rfl) rfl Ev.assign ?_
            refine Any.done (by kernel_rfl) ?_
            refine JC.ret ?_
            -- return 4
            show retQ _ _ _ _ _ _ _ _
            refine retI (RVs.t (hs := (RVs.t (hs := (RVs.t (hs := (RVs.t (hs := RVs.nil)))))))) (Part.here (Part.nil _)) ?_
            have hF : fieldsF i = some (3, ⟨#[71]⟩, [wholeF 41 i.target, wholeF 11 i.id, upToF 44 i.price 4294967295, wholeF 38 i.qty, wholeF 210 i.peak]) := by rw [fieldsF, if_neg c9, if_neg c17, if_neg c21, if_neg c48, if_pos c56]
            rw [hF]
            exact ⟨_, rfl, rfl⟩
          · -- else_t56
            refine JC.skip ?_
            refine JC.rs ?_
            refine Seq.p rfl Ev.assign ?_
            refine Seq.p rfl Ev.assign ?_
            refine Seq.p rfl Ev.assign ?_
            refine Seq.p rfl Ev.assign ?_
            refine Seq.nil ?_
            refine JC.ret ?_
            -- return 5
            show retQ _ _ _ _ _ _ _ _
            refine retI (RVs.t (hs := (RVs.t (hs := (RVs.t (hs := (RVs.t (hs := RVs.nil)))))))) (Part.nil _) ?_
            have hF : fieldsF i = none := by rw [fieldsF, if_neg c9, if_neg c17, if_neg c21, if_neg c48, if_neg c56]
            rw [hF]
            rfl
end Go.Rx
