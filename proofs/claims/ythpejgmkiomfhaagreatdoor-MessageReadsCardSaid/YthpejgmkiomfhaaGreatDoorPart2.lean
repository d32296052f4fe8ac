/- Parts of the proof. -/
import Derived.Test.YthpejgmkiomfhaaGreatDoorPart1
import Derived.Test.YthpejgmkiomfhaaGreatDoorRows
import Derived.Below
import Derived.ChangeOld
import Derived.ShutString
set_option linter.unusedVariables false
set_option linter.unusedSimpArgs false
namespace Go.Rx
open Go Go.RowKit
set_option linter.unusedVariables false
set_option linter.unusedSimpArgs false
def numsF (fs : List Fld) : List (Int × Int) := fs.foldl (fun m f => iput m f.tag f.num) []
theorem numsF_snoc (fs : List Fld) (i : Nat) (h : i < fs.length) : numsF (fs.take (i + 1)) = iput (numsF (fs.take i)) fs[i]!.tag fs[i]!.num := by
  have : fs.take (i + 1) = fs.take i ++ [fs[i]!] := by
    rw [List.take_succ_eq_append_getElem h, getElem!_pos fs i h]
  rw [this]
  unfold numsF
  rw [List.foldl_append]
  rfl
def NumsPost (fs : List Fld) (u : Value) (N : List Chunk) : Prop :=
  if fs.all (·.fits) = true then ∃ b, u = .tuple #[.map (some b), .bool true] ∧ N = [.mi b .i64 .u64 (numsF fs)] else u = .tuple #[.map none, .bool false]
set_option maxHeartbeats 1000000 in
theorem msgNumbers {w : World} {v : Value} {fs : List Fld} (hs : RSl Fld.enc 3 w [] v fs) : Spec Go.Proofs.Tryz.prog 55 #[v] w [] (NumsPost fs) := by
  have hsm := hs.small
  refine Spec.enter (fn := Go.Proofs.Tryz.f55) (n := 24) [v] Go.Proofs.Tryz.func55 (by kernel_rfl) rfl Go.Proofs.Tryz.ntmps55 Go.Proofs.Tryz.results55 rfl (Own.nil _) ?_
  refine JC.rs ?_
  refine Seq.p rfl Ev.assign ?_
  refine Seq.p rfl Ev.assign ?_
  refine Seq.nil ?_
  refine JC.rs ?_
  refine Seq.mkMapI .i64 .u64 (k := ?_); intro b7
  refine Seq.p rfl Ev.assign ?_
  refine Seq.nil ?_
  refine JC.seq ?_
  refine JC.rs ?_
  refine Seq.p rfl Ev.move ?_
  refine Seq.p rfl (Ev.lenSl sl.sl_message_field (hr := hs.r)) ?_
  refine Seq.p rfl Ev.move ?_
  refine Seq.nil ?_
  refine JC.blk ?_
  refine JC.loop (α := Nat) (I := fun i e1 H1 => Has [2, 3, 6, 10, 11, 12, 13, 14, 15, 16, 17, 18, 19, 20, 21, 22] [(10, .int .i64 (i : Int))] _ e1 ∧ H1 = [.mi b7 .i64 .u64 (numsF (fs.take i))] ∧ i ≤ fs.length ∧ ∀ j, j < i → fs[j]!.fits = true) (μ := fun i => fs.length - i) 0 ⟨Has.mk Off.refl (allLook_cons (by repeat (first | exact Look.here | apply Look.there (hne := rfl) | exact Look.const | apply Look.mix rfl | exact Look.arg0 | apply Look.args | exact Look.func)) allLook_nil), rfl, by omega, by omega⟩ ?_
  rintro i _ _ ⟨⟨ui, rfl⟩, rfl, hi, hlt⟩; dsimp only [setL]
  refine JC.rs ?_
  refine Seq.p rfl Ev.lt ?_
  refine Seq.nil ?_
  refine JC.seq ?_
  first | refine JC.c (ht := fun c11 => ?_) (hf := fun c11 => ?_) | refine JC.cb (ht := fun c11 => ?_) (hf := fun c11 => ?_)
  · -- then_t11
    have hi2 : i < fs.length := by omega
    refine JC.skip ?_
    refine JC.seq ?_
    refine JC.blk ?_
    refine JC.rs ?_
    refine Seq.p rfl (Ev.iaN sl.sl_message_field (hr := hs.r)) ?_
    refine Seq.p rfl (Ev.ldEA ag.message_field (hr := hs.r)) ?_
    refine Seq.alloc (cs := [_, _, _]) (hz := z.message_field) (k := ?_); intro b6
    refine Seq.storeN [_, _, _] sz.message_field (k := ?_)
    refine Seq.nil ?_
    refine JC.seq ?_
    refine JC.rs ?_
    refine Seq.p rfl (Ev.faB fd.message_field_2) ?_
    refine Seq.p rfl (Ev.ldB sc.bool) ?_
    refine Seq.p rfl Ev.not ?_
    refine Seq.nil ?_
    have hi2 : i < fs.length := by omega
    first | refine JC.c (ht := fun c16 => ?_) (hf := fun c16 => ?_) | refine JC.cb (ht := fun c16 => ?_) (hf := fun c16 => ?_)
    · -- then_t16
      refine JC.rs ?_
      refine Seq.p rfl Ev.assign ?_
      refine Seq.p rfl Ev.assign ?_
      refine Seq.nil ?_
      refine JC.ret ?_
      -- return 0
      show retQ _ _ _ _ _ _ _ _
      refine ret2 (hp := Part.nil _) (hpost := ?_)
      have hn : ¬ (fs.all (·.fits) = true) := by
        intro h
        have this : fs[i]!.fits = true := List.all_eq_true.1 h fs[i]! (by rw [getElem!_pos fs i hi2]; exact List.getElem_mem hi2)
        rw [this] at c16
        cases c16
      show NumsPost _ _ _
      rw [NumsPost, if_neg hn]
    · -- else_t16
      refine JC.skip ?_
      refine JC.reg ?_
      refine Seq.p rfl Ev.move ?_
      refine Seq.p rfl (Ev.faB fd.message_field_0) ?_
      refine Seq.p rfl (Ev.ldB sc.int) ?_
      refine Seq.p rfl (Ev.faB fd.message_field_1) ?_
      refine Seq.p rfl (Ev.ldB sc.uint64) ?_
      refine Seq.mapPutI mp.m_int_uint64 (kk' := ?_)
      refine Seq.nil ?_
      refine JC.reg ?_
      refine Seq.p rfl (by first | exact Ev.inc | exact Ev.add) ?_
      refine Seq.p rfl Ev.move ?_
      refine Seq.nil ?_
      refine ⟨i + 1, _, Part.skip (Part.refl _), ⟨Has.mk (by repeat (first | refine Off.upd ?_ rfl | exact Off.mix | refine Off.mix2 ?_ rfl | exact Off.refl)) (allLook_cons (by repeat (first | exact Look.here | apply Look.there (hne := rfl) | exact Look.const | apply Look.mix rfl | exact Look.arg0 | apply Look.args | exact Look.func)) allLook_nil), by rw [numsF_snoc fs i hi2]; rfl, by omega, ?_⟩, by omega⟩
      intro j hj
      by_cases h : j = i
      · subst h; simpa using c16
      · exact hlt j (by omega)
  · -- else_t11
    have hi2 : i = fs.length := by omega
    subst hi2
    refine JC.exit ?_ -- 0
    refine JC.rs ?_
    refine Seq.p rfl Ev.move ?_
    refine Seq.p rfl Ev.assign ?_
    refine Seq.p rfl Ev.assign ?_
    refine Seq.nil ?_
    refine JC.ret ?_
    -- return 1
    show retQ _ _ _ _ _ _ _ _
    refine ret2 (hp := Part.refl _) (hpost := ?_)
    have hn : fs.all (·.fits) = true := by
      rw [List.all_eq_true]
      intro x hx
      obtain ⟨j, hj, rfl⟩ := List.getElem_of_mem hx
      have := hlt j hj
      rwa [getElem!_pos fs j hj] at this
    show NumsPost _ _ _
    rw [NumsPost, if_pos hn]
    exact ⟨b7, rfl, by rw [List.take_length]⟩
def toldE (i : Input) : Int := match fieldsF i with | none => 41 | some (k, s, fs) => if fs.all (·.fits) = true ∧ inputF k (numsF fs) = i then 0 else 40
theorem Input.eqL_enc (x y : Input) : eqL x.enc y.enc = decide (x = y) := by
  cases x; cases y
  simp [Input.enc, eqL, eqV, Bool.decide_and]
def ToldPost (i : Input) (u : Value) (N : List Chunk) : Prop :=
  if toldE i = 0 then ∃ k s fs b1 b2, fieldsF i = some (k, s, fs) ∧ u = .tuple #[.int .u8 k, .string s, .slice (some ⟨b1, 0, none⟩) fs.length fs.length, .map (some b2), .int .i64 0] ∧ N = [.mi b2 .i64 .u64 (numsF fs), .box b1 119 (fs.flatMap Fld.enc)]
  else u = .tuple #[.int .u8 0, .string ⟨#[]⟩, .slice none 0 0, .map none, .int .i64 (toldE i)]
theorem fieldsF_small {i : Input} {k : Int} {s : ByteArray} {fs : List Fld} (h : fieldsF i = some (k, s, fs)) : fs.length ≤ 7 := by
  unfold fieldsF at h
  repeat (first | (split at h) | (simp only [Option.some.injEq, Prod.mk.injEq] at h; obtain ⟨_, _, rfl⟩ := h; exact Nat.le_of_ble_eq_true rfl) | cases h)
set_option maxHeartbeats 2000000 in
theorem msgTold0 {w : World} {i : Input} (hF : fieldsF i = none) : Spec Go.Proofs.Tryz.prog 36 #[.agg i.enc.toArray] w [] (ToldPost i) := by
  have hE : toldE i = 41 := by unfold toldE; rw [hF]
  refine Spec.enter (fn := Go.Proofs.Tryz.f36) (n := 39) [.agg i.enc.toArray] Go.Proofs.Tryz.func36 (by kernel_rfl) rfl Go.Proofs.Tryz.ntmps36 Go.Proofs.Tryz.results36 rfl (Own.nil _) ?_
  refine JC.rs ?_
  refine Seq.box (cs := [_, _, _, _, _, _, _, _, _, _, _]) (k := ?_); intro b1
  refine Seq.p rfl Ev.assign ?_
  refine Seq.p rfl Ev.assign ?_
  refine Seq.p rfl Ev.assign ?_
  refine Seq.p rfl Ev.assign ?_
  refine Seq.p rfl Ev.assign ?_
  refine Seq.nil ?_
  refine JC.rs ?_
  refine Seq.p rfl (Ev.ldBA ag.api_Input) ?_
  refine Seq.call rfl (fun w hw => hF ▸ msgFieldsOf) (F := _) (by exact List.Perm.refl _) ?_
  rintro _ N rfl
  refine Seq.p rfl Ev.move ?_
  refine Seq.p rfl Ev.extract ?_
  refine Seq.p rfl Ev.extract ?_
  refine Seq.p rfl Ev.extract ?_
  refine Seq.p rfl Ev.extract ?_
  refine Seq.p rfl Ev.assign ?_
  refine Seq.p rfl Ev.assign ?_
  refine Seq.p rfl Ev.assign ?_
  refine Seq.p rfl Ev.assign ?_
  refine Seq.nil ?_
  refine JC.seq ?_
  refine JC.rs ?_
  refine Seq.p rfl Ev.move ?_
  refine Seq.p rfl Ev.not ?_
  refine Seq.nil ?_
  first | refine JC.c (ht := fun c20 => ?_) (hf := fun c20 => ?_) | refine JC.cb (ht := fun c20 => ?_) (hf := fun c20 => ?_)
  · -- then_t20
    refine JC.rs ?_
    refine Seq.p rfl Ev.assign ?_
    refine Seq.p rfl Ev.assign ?_
    refine Seq.p rfl Ev.assign ?_
    refine Seq.p rfl Ev.assign ?_
    refine Seq.p rfl Ev.assign ?_
    refine Seq.nil ?_
    refine JC.ret ?_
    -- return 0
    show retQ _ _ _ _ _ _ _ _
    refine retI (RVs.t (hs := (RVs.t (hs := (RVs.t (hs := (RVs.t (hs := (RVs.t (hs := RVs.nil)))))))))) (Part.nil _) ?_
    show ToldPost _ _ _
    rw [ToldPost, if_neg (by rw [hE]; decide), hE]
    rfl
  · -- else_t20
    cases c20
set_option maxHeartbeats 2000000 in
theorem msgTold1 {w : World} {i : Input} {k : Int} {s : ByteArray} {fs : List Fld} (hF : fieldsF i = some (k, s, fs)) (hn : ¬ fs.all (·.fits) = true) : Spec Go.Proofs.Tryz.prog 36 #[.agg i.enc.toArray] w [] (ToldPost i) := by
  have hE : toldE i = 40 := by unfold toldE; rw [hF]; exact if_neg (fun h => hn h.1)
  have hsm := fieldsF_small hF
  refine Spec.enter (fn := Go.Proofs.Tryz.f36) (n := 39) [.agg i.enc.toArray] Go.Proofs.Tryz.func36 (by kernel_rfl) rfl Go.Proofs.Tryz.ntmps36 Go.Proofs.Tryz.results36 rfl (Own.nil _) ?_
  refine JC.rs ?_
  refine Seq.box (cs := [_, _, _, _, _, _, _, _, _, _, _]) (k := ?_); intro b1
  refine Seq.p rfl Ev.assign ?_
  refine Seq.p rfl Ev.assign ?_
  refine Seq.p rfl Ev.assign ?_
  refine Seq.p rfl Ev.assign ?_
  refine Seq.p rfl Ev.assign ?_
  refine Seq.nil ?_
  refine JC.rs ?_
  refine Seq.p rfl (Ev.ldBA ag.api_Input) ?_
  refine Seq.call rfl (fun w hw => hF ▸ msgFieldsOf) (F := _) (by exact List.Perm.refl _) ?_
  rintro _ _ ⟨bf, rfl, rfl⟩
  refine Seq.p rfl Ev.move ?_
  refine Seq.p rfl Ev.extract ?_
  refine Seq.p rfl Ev.extract ?_
  refine Seq.p rfl Ev.extract ?_
  refine Seq.p rfl Ev.extract ?_
  refine Seq.p rfl Ev.assign ?_
  refine Seq.p rfl Ev.assign ?_
  refine Seq.p rfl Ev.assign ?_
  refine Seq.p rfl Ev.assign ?_
  refine Seq.nil ?_
  refine JC.seq ?_
  refine JC.rs ?_
  refine Seq.p rfl Ev.move ?_
  refine Seq.p rfl Ev.not ?_
  refine Seq.nil ?_
  first | refine JC.c (ht := fun c20 => ?_) (hf := fun c20 => ?_) | refine JC.cb (ht := fun c20 => ?_) (hf := fun c20 => ?_)
  · -- then_t20
    cases c20
  · -- else_t20
    refine JC.skip ?_
    refine JC.rs ?_
    refine Seq.p rfl Ev.move ?_
    refine Seq.call rfl (fun w hw => msgNumbers (RAt.up (RAt.box (enc := Fld.enc) (hs := by omega)) hw)) (F := _) (by exact List.Perm.refl _) ?_
    intro u N hN
    rw [NumsPost, if_neg hn] at hN
    subst hN
    refine Seq.p rfl Ev.move ?_
    refine Seq.p rfl Ev.extract ?_
    refine Seq.p rfl Ev.extract ?_
    refine Seq.p rfl Ev.assign ?_
    refine Seq.p rfl Ev.assign ?_
    refine Seq.nil ?_
    refine JC.seq ?_
    refine JC.qs mixed (by kernel_rfl) ?_
    refine Qui.p rfl Ev.move ?_
    refine Qui.p rfl Ev.not ?_
    refine Qui.p rfl Ev.move ?_
    refine Qui.split (d := 28) (k := ?_)
    rintro (_|_) h28
    · try simp only [decide_eq_true_eq, decide_eq_false_iff_not] at h28
      cases h28
    · try simp only [decide_eq_true_eq, decide_eq_false_iff_not] at h28
      refine Qui.gn rfl rfl rfl rfl ?_
      refine Qui.gn rfl rfl rfl rfl ?_
      refine Qui.gn rfl rfl rfl rfl ?_
      refine Qui.gn rfl rfl rfl rfl ?_
      refine Qui.gn rfl rfl rfl rfl ?_
      refine Qui.p rfl Ev.pickT ?_
      refine Qui.nil ?_
      refine JC.cT (h := ?_)
      refine JC.rs ?_
      refine Seq.p rfl Ev.assign ?_
      refine Seq.p rfl Ev.assign ?_
      refine Seq.p rfl Ev.assign ?_
      refine Seq.p rfl Ev.assign ?_
      refine Seq.p rfl Ev.assign ?_
      refine Seq.nil ?_
      refine JC.ret ?_
      -- return 0
      show retQ _ _ _ _ _ _ _ _
      refine retI (RVs.t (hs := (RVs.t (hs := (RVs.t (hs := (RVs.t (hs := (RVs.t (hs := RVs.nil)))))))))) (Part.nil _) ?_
      show ToldPost _ _ _
      rw [ToldPost, if_neg (by rw [hE]; decide), hE]
      rfl
set_option maxHeartbeats 2000000 in
theorem msgTold2 {w : World} {i : Input} {k : Int} {s : ByteArray} {fs : List Fld} (hF : fieldsF i = some (k, s, fs)) (hn : fs.all (·.fits) = true) : Spec Go.Proofs.Tryz.prog 36 #[.agg i.enc.toArray] w [] (ToldPost i) := by
  have hE : toldE i = if inputF k (numsF fs) = i then 0 else 40 := by
    unfold toldE
    rw [hF]
    simp only [hn, true_and]
  have hsm := fieldsF_small hF
  refine Spec.enter (fn := Go.Proofs.Tryz.f36) (n := 39) [.agg i.enc.toArray] Go.Proofs.Tryz.func36 (by kernel_rfl) rfl Go.Proofs.Tryz.ntmps36 Go.Proofs.Tryz.results36 rfl (Own.nil _) ?_
  refine JC.rs ?_
  refine Seq.box (cs := [_, _, _, _, _, _, _, _, _, _, _]) (k := ?_); intro b1
  refine Seq.p rfl Ev.assign ?_
  refine Seq.p rfl Ev.assign ?_
  refine Seq.p rfl Ev.assign ?_
  refine Seq.p rfl Ev.assign ?_
  refine Seq.p rfl Ev.assign ?_
  refine Seq.nil ?_
  refine JC.rs ?_
  refine Seq.p rfl (Ev.ldBA ag.api_Input) ?_
  refine Seq.call rfl (fun w hw => hF ▸ msgFieldsOf) (F := _) (by exact List.Perm.refl _) ?_
  rintro _ _ ⟨bf, rfl, rfl⟩
  refine Seq.p rfl Ev.move ?_
  refine Seq.p rfl Ev.extract ?_
  refine Seq.p rfl Ev.extract ?_
  refine Seq.p rfl Ev.extract ?_
  refine Seq.p rfl Ev.extract ?_
  refine Seq.p rfl Ev.assign ?_
  refine Seq.p rfl Ev.assign ?_
  refine Seq.p rfl Ev.assign ?_
  refine Seq.p rfl Ev.assign ?_
  refine Seq.nil ?_
  refine JC.seq ?_
  refine JC.rs ?_
  refine Seq.p rfl Ev.move ?_
  refine Seq.p rfl Ev.not ?_
  refine Seq.nil ?_
  first | refine JC.c (ht := fun c20 => ?_) (hf := fun c20 => ?_) | refine JC.cb (ht := fun c20 => ?_) (hf := fun c20 => ?_)
  · -- then_t20
    cases c20
  · -- else_t20
    refine JC.skip ?_
    refine JC.rs ?_
    refine Seq.p rfl Ev.move ?_
    refine Seq.call rfl (fun w hw => msgNumbers (RAt.up (RAt.box (enc := Fld.enc) (hs := by omega)) hw)) (F := _) (by exact List.Perm.refl _) ?_
    intro u N hN
    rw [NumsPost, if_pos hn] at hN
    obtain ⟨bn, rfl, rfl⟩ := hN
    refine Seq.p rfl Ev.move ?_
    refine Seq.p rfl Ev.extract ?_
    refine Seq.p rfl Ev.extract ?_
    refine Seq.p rfl Ev.assign ?_
    refine Seq.p rfl Ev.assign ?_
    refine Seq.nil ?_
    refine JC.seq ?_
    refine JC.qs mixed (by kernel_rfl) ?_
    refine Qui.p rfl Ev.move ?_
    refine Qui.p rfl Ev.not ?_
    refine Qui.p rfl Ev.move ?_
    refine Qui.split (d := 28) (k := ?_)
    rintro (_|_) h28
    · try simp only [decide_eq_true_eq, decide_eq_false_iff_not] at h28
      refine Qui.gy rfl rfl rfl ?_
      refine Qui.p rfl Ev.move ?_
      refine Qui.gy rfl rfl rfl ?_
      refine Qui.p rfl Ev.move ?_
      refine Qui.gy rfl rfl rfl ?_
      refine Qui.call rfl (fun w hw => msgInputOf (RM.up RM.own hw)) ?_
      refine Qui.gy rfl rfl rfl ?_
      refine Qui.p rfl (Ev.ldBA ag.api_Input) ?_
      refine Qui.gy rfl rfl rfl ?_
      refine Qui.p rfl (Ev.neAg so.api_Input ag.api_Input gd.api_Input) ?_
      refine Qui.p rfl Ev.pickF ?_
      refine Qui.nil ?_
      first | refine JC.c (ht := fun c34 => ?_) (hf := fun c34 => ?_) | refine JC.cb (ht := fun c34 => ?_) (hf := fun c34 => ?_)
      · -- then_t34
        have c35 : (!eqL (inputF k (numsF fs)).enc i.enc) = true := c34
        rw [Input.eqL_enc] at c35
        have hne : ¬ inputF k (numsF fs) = i := by simpa using c35
        rw [if_neg hne] at hE
        refine JC.rs ?_
        refine Seq.p rfl Ev.assign ?_
        refine Seq.p rfl Ev.assign ?_
        refine Seq.p rfl Ev.assign ?_
        refine Seq.p rfl Ev.assign ?_
        refine Seq.p rfl Ev.assign ?_
        refine Seq.nil ?_
        refine JC.ret ?_
        -- return 0
        show retQ _ _ _ _ _ _ _ _
        refine retI (RVs.t (hs := (RVs.t (hs := (RVs.t (hs := (RVs.t (hs := (RVs.t (hs := RVs.nil)))))))))) (Part.nil _) ?_
        show ToldPost _ _ _
        rw [ToldPost, if_neg (by rw [hE]; decide), hE]
        rfl
      · -- else_t34
        have c35 : (!eqL (inputF k (numsF fs)).enc i.enc) = false := c34
        rw [Input.eqL_enc] at c35
        have heq : inputF k (numsF fs) = i := by simpa using c35
        rw [if_pos heq] at hE
        refine JC.skip ?_
        refine JC.rs ?_
        refine Seq.p rfl Ev.move ?_
        refine Seq.p rfl Ev.move ?_
        refine Seq.p rfl Ev.move ?_
        refine Seq.p rfl Ev.move ?_
        refine Seq.p rfl Ev.assign ?_
        refine Seq.p rfl Ev.assign ?_
        refine Seq.p rfl Ev.assign ?_
        refine Seq.p rfl Ev.assign ?_
        refine Seq.p rfl Ev.assign ?_
        refine Seq.nil ?_
        refine JC.ret ?_
        -- return 1
        show retQ _ _ _ _ _ _ _ _
        refine retI (H' := [.mi bn .i64 .u64 (numsF fs), .box bf 119 (fs.flatMap Fld.enc)]) (RVs.t (hs := (RVs.t (hs := (RVs.t (hs := (RVs.t (hs := (RVs.t (hs := RVs.nil)))))))))) (Part.here (Part.here (Part.nil _))) ?_
        show ToldPost _ _ _
        rw [ToldPost, if_pos hE]
        exact ⟨k, s, fs, bf, bn, hF, rfl, rfl⟩
    · try simp only [decide_eq_true_eq, decide_eq_false_iff_not] at h28
      cases h28
theorem msgTold {w : World} {i : Input} : Spec Go.Proofs.Tryz.prog 36 #[.agg i.enc.toArray] w [] (ToldPost i) := by
  rcases hF : fieldsF i with _ | ⟨k, s, fs⟩
  · exact msgTold0 hF
  · by_cases hn : fs.all (·.fits) = true
    · exact msgTold2 hF hn
    · exact msgTold1 hF hn
structure Frame where
  kind : Int
  words : List Int
deriving DecidableEq, Inhabited
def Frame.enc (f : Frame) : List Value := .int .u8 f.kind :: f.words.map (Value.int .u64)
def frame0 : Frame := ⟨0, [0, 0, 0, 0, 0, 0, 0]⟩
def up (a n : Int) : Int := IntKind.u64.wrap (a * 2 ^ (min n.toNat IntKind.u64.bits))
def add64 (a b : Int) : Int := (a + b) % 18446744073709551616
def frameF (k : Int) (m : List (Int × Int)) : Frame :=
  ⟨k, [add64 (iget m 11) (iget m 9001), iget m 41, add64 (add64 (iget m 1) (up (iget m 54) 32)) (up (iget m 40) 40), iget m 44, iget m 38, iget m 210, 0]⟩
def packF (i : Input) : Frame × Int := if toldE i = 0 then (match fieldsF i with | some (k, s, fs) => frameF k (numsF fs) | none => frame0, 0) else (frame0, toldE i)
def packV (p : Frame × Int) : Value := .tuple #[.agg p.1.enc.toArray, .int .i64 p.2]
set_option maxHeartbeats 2000000 in
theorem msgPack0 {w : World} {i : Input} (hE : ¬ toldE i = 0) : Spec Go.Proofs.Tryz.prog 13 #[.agg i.enc.toArray] w [] (fun u _ => u = packV (packF i)) := by
  refine Spec.enter (fn := Go.Proofs.Tryz.f13) (n := 47) [.agg i.enc.toArray] Go.Proofs.Tryz.func13 (by kernel_rfl) rfl Go.Proofs.Tryz.ntmps13 Go.Proofs.Tryz.results13 rfl (Own.nil _) ?_
  refine JC.rs ?_
  refine Seq.box (cs := [_, _, _, _, _, _, _, _, _, _, _]) (k := ?_); intro b1
  refine Seq.alloc (cs := [_, _, _, _, _, _, _, _]) (hz := z.api_Frame) (k := ?_); intro b2
  refine Seq.p rfl Ev.assign ?_
  refine Seq.nil ?_
  refine JC.rs ?_
  refine Seq.p rfl (Ev.ldBA ag.api_Input) ?_
  refine Seq.call rfl (fun w hw => msgTold) (F := _) (by exact List.Perm.refl _) ?_
  intro u N hN
  rw [ToldPost, if_neg hE] at hN
  subst hN
  refine Seq.re (fun w h => h.part ⟨N, List.perm_append_comm⟩) ?_
  refine Seq.p rfl Ev.move ?_
  refine Seq.p rfl Ev.extract ?_
  refine Seq.p rfl Ev.extract ?_
  refine Seq.p rfl Ev.extract ?_
  refine Seq.p rfl Ev.extract ?_
  refine Seq.p rfl Ev.extract ?_
  refine Seq.p rfl Ev.assign ?_
  refine Seq.p rfl Ev.assign ?_
  refine Seq.p rfl Ev.assign ?_
  refine Seq.p rfl Ev.assign ?_
  refine Seq.p rfl Ev.assign ?_
  refine Seq.nil ?_
  refine JC.seq ?_
  refine JC.rs ?_
  refine Seq.p rfl Ev.move ?_
  refine Seq.p rfl Ev.ne ?_
  refine Seq.nil ?_
  first | refine JC.c (ht := fun c18 => ?_) (hf := fun c18 => ?_) | refine JC.cb (ht := fun c18 => ?_) (hf := fun c18 => ?_)
  · -- then_t18
    refine JC.rs ?_
    refine Seq.p rfl (Ev.buildN [_, _, _, _, _, _, _, _] pl.api_Frame z.api_Frame) ?_
    refine Seq.p rfl Ev.move ?_
    refine Seq.storeN [_, _, _, _, _, _, _, _] sz.api_Frame (k := ?_)
    refine Seq.p rfl Ev.assign ?_
    refine Seq.nil ?_
    refine JC.ret ?_
    -- return 0
    show retQ _ _ _ _ _ _ _ _
    refine retB2 ag.api_Frame (hp := Part.nil _) (hpost := ?_)
    rw [packF, if_neg hE]
    rfl
  · -- else_t18
    exact absurd hE c18
set_option maxHeartbeats 4000000 in
theorem msgPack1 {w : World} {i : Input} (hE : toldE i = 0) : Spec Go.Proofs.Tryz.prog 13 #[.agg i.enc.toArray] w [] (fun u _ => u = packV (packF i)) := by
  refine Spec.enter (fn := Go.Proofs.Tryz.f13) (n := 47) [.agg i.enc.toArray] Go.Proofs.Tryz.func13 (by kernel_rfl) rfl Go.Proofs.Tryz.ntmps13 Go.Proofs.Tryz.results13 rfl (Own.nil _) ?_
  refine JC.rs ?_
  refine Seq.box (cs := [_, _, _, _, _, _, _, _, _, _, _]) (k := ?_); intro b1
  refine Seq.alloc (cs := [_, _, _, _, _, _, _, _]) (hz := z.api_Frame) (k := ?_); intro b2
  refine Seq.p rfl Ev.assign ?_
  refine Seq.nil ?_
  refine JC.rs ?_
  refine Seq.p rfl (Ev.ldBA ag.api_Input) ?_
  refine Seq.call rfl (fun w hw => msgTold) (F := _) (by exact List.Perm.refl _) ?_
  intro u N hN
  rw [ToldPost, if_pos hE] at hN
  obtain ⟨k, s, fs, b1, b3, hF, rfl, rfl⟩ := hN
  refine Seq.p rfl Ev.move ?_
  refine Seq.p rfl Ev.extract ?_
  refine Seq.p rfl Ev.extract ?_
  refine Seq.p rfl Ev.extract ?_
  refine Seq.p rfl Ev.extract ?_
  refine Seq.p rfl Ev.extract ?_
  refine Seq.p rfl Ev.assign ?_
  refine Seq.p rfl Ev.assign ?_
  refine Seq.p rfl Ev.assign ?_
  refine Seq.p rfl Ev.assign ?_
  refine Seq.p rfl Ev.assign ?_
  refine Seq.nil ?_
  refine JC.seq ?_
  refine JC.rs ?_
  refine Seq.p rfl Ev.move ?_
  refine Seq.p rfl Ev.ne ?_
  refine Seq.nil ?_
  first | refine JC.c (ht := fun c18 => ?_) (hf := fun c18 => ?_) | refine JC.cb (ht := fun c18 => ?_) (hf := fun c18 => ?_)
  · -- then_t18
    exact absurd rfl c18
  · -- else_t18
    refine JC.skip ?_
    refine JC.rs ?_
    refine Seq.p rfl Ev.move ?_
    refine Seq.p rfl Ev.move ?_
    refine Seq.p rfl (Ev.mapI mp.m_int_uint64 z.uint64 RM.own) ?_
    refine Seq.p rfl Ev.move ?_
    refine Seq.p rfl (Ev.mapI mp.m_int_uint64 z.uint64 RM.own) ?_
    refine Seq.p rfl Ev.addU ?_
    refine Seq.p rfl Ev.move ?_
    refine Seq.p rfl (Ev.mapI mp.m_int_uint64 z.uint64 RM.own) ?_
    refine Seq.p rfl Ev.move ?_
    refine Seq.p rfl (Ev.mapI mp.m_int_uint64 z.uint64 RM.own) ?_
    refine Seq.p rfl Ev.move ?_
    refine Seq.p rfl (Ev.mapI mp.m_int_uint64 z.uint64 RM.own) ?_
    refine Seq.p rfl Ev.shlW ?_
    refine Seq.p rfl Ev.addU ?_
    refine Seq.p rfl Ev.move ?_
    refine Seq.p rfl (Ev.mapI mp.m_int_uint64 z.uint64 RM.own) ?_
    refine Seq.p rfl Ev.shlW ?_
    refine Seq.p rfl Ev.addU ?_
    refine Seq.p rfl Ev.move ?_
    refine Seq.p rfl (Ev.mapI mp.m_int_uint64 z.uint64 RM.own) ?_
    refine Seq.p rfl Ev.move ?_
    refine Seq.p rfl (Ev.mapI mp.m_int_uint64 z.uint64 RM.own) ?_
    refine Seq.p rfl Ev.move ?_
    refine Seq.p rfl (Ev.mapI mp.m_int_uint64 z.uint64 RM.own) ?_
    refine Seq.p rfl (Ev.buildArrN [_, _, _, _, _, _, _] ar.a7_uint64 z.a7_uint64) ?_
    refine Seq.p rfl (Ev.buildN [_, _, _, _, _, _, _, _] pl.api_Frame z.api_Frame) ?_
    refine Seq.storeN [_, _, _, _, _, _, _, _] sz.api_Frame (k := ?_)
    refine Seq.p rfl Ev.assign ?_
    refine Seq.nil ?_
    refine JC.ret ?_
    -- return 0
    show retQ _ _ _ _ _ _ _ _
    refine retB2 ag.api_Frame (hp := Part.nil _) (hpost := ?_)
    rw [packF, if_pos hE, hF]
    rfl
theorem msgPack {w : World} {i : Input} : Spec Go.Proofs.Tryz.prog 13 #[.agg i.enc.toArray] w [] (fun u _ => u = packV (packF i)) := by
  by_cases hE : toldE i = 0
  · exact msgPack1 hE
  · exact msgPack0 hE
end Go.Rx
namespace Go.Rx
open Go Go.RowKit
set_option linter.unusedVariables false
set_option linter.unusedSimpArgs false
def refFieldsF (k : Int) : List RF :=
  if k = 1 then [⟨11, 0, 0, 0⟩, ⟨1, 4294967295, 2, 0⟩, ⟨54, 255, 2, 32⟩, ⟨40, 255, 2, 40⟩, ⟨44, 4294967295, 3, 0⟩, ⟨38, 0, 4, 0⟩, ⟨210, 0, 5, 0⟩]
  else if k = 2 then [⟨41, 0, 1, 0⟩]
  else if k = 3 then [⟨41, 0, 1, 0⟩, ⟨11, 0, 0, 0⟩, ⟨44, 4294967295, 3, 0⟩, ⟨38, 0, 4, 0⟩, ⟨210, 0, 5, 0⟩]
  else if k = 4 then [⟨9001, 255, 0, 0⟩]
  else []
def RowPost (l : List RF) (u : Value) (N : List Chunk) : Prop := ∃ b, u = .slice (some ⟨b, 0, none⟩) l.length l.length ∧ N = [.box b 71 (l.flatMap RF.enc)]
set_option maxHeartbeats 4000000 in
set_option maxRecDepth 100000 in
theorem refFields {w : World} {k : Int} (hk : 1 ≤ k ∧ k ≤ 4) : Spec Go.Proofs.Tryz.prog 26 #[.int .i64 k] w [] (RowPost (refFieldsF k)) := by
  refine Spec.enter (fn := Go.Proofs.Tryz.f26) (n := 40) [.int .i64 k] Go.Proofs.Tryz.func26 (by kernel_rfl) rfl Go.Proofs.Tryz.ntmps26 Go.Proofs.Tryz.results26 rfl (Own.nil _) ?_
  refine JC.rs ?_
  refine Seq.p rfl Ev.assign ?_
  refine Seq.nil ?_
  refine JC.rs ?_
  refine Seq.p rfl (Ev.buildN [_, _, _, _] pl.bourseref04_field z.bourseref04_field) ?_
  refine Seq.p rfl (Ev.buildN [_, _, _, _] pl.bourseref04_field z.bourseref04_field) ?_
  refine Seq.alloc (cs := [_, _, _, _]) (hz := z.bourseref04_field) (k := ?_); intro b3
  refine Seq.alloc (cs := [_, _, _, _]) (hz := z.bourseref04_field) (k := ?_); intro b4
  refine Seq.storeN [_, _, _, _] sz.bourseref04_field (k := ?_)
  refine Seq.storeN [_, _, _, _] sz.bourseref04_field (k := ?_)
  refine Seq.nil ?_
  refine JC.rs ?_
  refine Seq.p rfl (Ev.buildN [_, _, _, _] pl.bourseref04_field z.bourseref04_field) ?_
  refine Seq.p rfl (Ev.buildN [_, _, _, _] pl.bourseref04_field z.bourseref04_field) ?_
  refine Seq.p rfl (Ev.buildN [_, _, _, _] pl.bourseref04_field z.bourseref04_field) ?_
  refine Seq.alloc (cs := [_, _, _, _]) (hz := z.bourseref04_field) (k := ?_); intro b5
  refine Seq.alloc (cs := [_, _, _, _]) (hz := z.bourseref04_field) (k := ?_); intro b6
  refine Seq.alloc (cs := [_, _, _, _]) (hz := z.bourseref04_field) (k := ?_); intro b7
  refine Seq.storeN [_, _, _, _] sz.bourseref04_field (k := ?_)
  refine Seq.storeN [_, _, _, _] sz.bourseref04_field (k := ?_)
  refine Seq.storeN [_, _, _, _] sz.bourseref04_field (k := ?_)
  refine Seq.nil ?_
  refine JC.seq ?_
  refine JC.rs ?_
  refine Seq.p rfl Ev.move ?_
  refine Seq.nil ?_
  refine JC.blk ?_
  refine JC.rs ?_
  refine Seq.p rfl Ev.eq ?_
  refine Seq.p rfl Ev.assign ?_
  refine Seq.nil ?_
  first | refine JC.c (ht := fun c14 => ?_) (hf := fun c14 => ?_) | refine JC.cb (ht := fun c14 => ?_) (hf := fun c14 => ?_)
  · -- then_t14
    refine JC.rs ?_
    refine Seq.p rfl (Ev.ldBA ag.bourseref04_field) ?_
    refine Seq.p rfl (Ev.buildN [_, _, _, _] pl.bourseref04_field z.bourseref04_field) ?_
    refine Seq.p rfl (Ev.buildN [_, _, _, _] pl.bourseref04_field z.bourseref04_field) ?_
    refine Seq.p rfl (Ev.buildN [_, _, _, _] pl.bourseref04_field z.bourseref04_field) ?_
    refine Seq.p rfl (Ev.ldBA ag.bourseref04_field) ?_
    refine Seq.p rfl (Ev.ldBA ag.bourseref04_field) ?_
    refine Seq.p rfl (Ev.ldBA ag.bourseref04_field) ?_
    refine Seq.buildSlS [_, _, _, _, _, _, _, _, _, _, _, _, _, _, _, _, _, _, _, _, _, _, _, _, _, _, _, _] (hsl := sl.sl_bourseref04_field) (hz := z.bourseref04_field) (k := ?_); intro b23
    refine Seq.p rfl Ev.assign ?_
    refine Seq.nil ?_
    refine JC.ret ?_
    -- return 0
    show retQ _ _ _ _ _ _ _ _
    refine ret1 (hp := Part.here (Part.nil _)) (hpost := ?_)
    rw [refFieldsF, if_pos c14]
    exact ⟨_, rfl, rfl⟩
  · -- else_t14
    refine JC.rs ?_
    refine Seq.p rfl Ev.eq ?_
    refine Seq.p rfl Ev.assign ?_
    refine Seq.nil ?_
    first | refine JC.c (ht := fun c24 => ?_) (hf := fun c24 => ?_) | refine JC.cb (ht := fun c24 => ?_) (hf := fun c24 => ?_)
    · -- then_t24
      refine JC.rs ?_
      refine Seq.p rfl (Ev.ldBA ag.bourseref04_field) ?_
      refine Seq.buildSlN [_, _, _, _] (hsl := sl.sl_bourseref04_field) (hz := z.bourseref04_field) (k := ?_); intro b27
      refine Seq.p rfl Ev.assign ?_
      refine Seq.nil ?_
      refine JC.ret ?_
      -- return 1
      show retQ _ _ _ _ _ _ _ _
      refine ret1 (hp := Part.here (Part.nil _)) (hpost := ?_)
      rw [refFieldsF, if_neg c14, if_pos c24]
      exact ⟨_, rfl, rfl⟩
    · -- else_t24
      refine JC.rs ?_
      refine Seq.p rfl Ev.eq ?_
      refine Seq.p rfl Ev.assign ?_
      refine Seq.nil ?_
      first | refine JC.c (ht := fun c28 => ?_) (hf := fun c28 => ?_) | refine JC.cb (ht := fun c28 => ?_) (hf := fun c28 => ?_)
      · -- then_t28
        refine JC.rs ?_
        refine Seq.p rfl (Ev.ldBA ag.bourseref04_field) ?_
        refine Seq.p rfl (Ev.ldBA ag.bourseref04_field) ?_
        refine Seq.p rfl (Ev.ldBA ag.bourseref04_field) ?_
        refine Seq.p rfl (Ev.ldBA ag.bourseref04_field) ?_
        refine Seq.p rfl (Ev.ldBA ag.bourseref04_field) ?_
        refine Seq.buildSlS [_, _, _, _, _, _, _, _, _, _, _, _, _, _, _, _, _, _, _, _] (hsl := sl.sl_bourseref04_field) (hz := z.bourseref04_field) (k := ?_); intro b35
        refine Seq.p rfl Ev.assign ?_
        refine Seq.nil ?_
        refine JC.ret ?_
        -- return 2
        show retQ _ _ _ _ _ _ _ _
        refine ret1 (hp := Part.here (Part.nil _)) (hpost := ?_)
        rw [refFieldsF, if_neg c14, if_neg c24, if_pos c28]
        exact ⟨_, rfl, rfl⟩
      · -- else_t28
        refine JC.rs ?_
        refine Seq.p rfl Ev.eq ?_
        refine Seq.p rfl Ev.assign ?_
        refine Seq.nil ?_
        first | refine JC.c (ht := fun c36 => ?_) (hf := fun c36 => ?_) | refine JC.cb (ht := fun c36 => ?_) (hf := fun c36 => ?_)
        · -- then_t36
          refine JC.rs ?_
          refine Seq.p rfl (Ev.buildN [_, _, _, _] pl.bourseref04_field z.bourseref04_field) ?_
          refine Seq.buildSlN [_, _, _, _] (hsl := sl.sl_bourseref04_field) (hz := z.bourseref04_field) (k := ?_); intro b39
          refine Seq.p rfl Ev.assign ?_
          refine Seq.nil ?_
          refine JC.ret ?_
          -- return 3
          show retQ _ _ _ _ _ _ _ _
          refine ret1 (hp := Part.here (Part.nil _)) (hpost := ?_)
          rw [refFieldsF, if_neg c14, if_neg c24, if_neg c28, if_pos c36]
          exact ⟨_, rfl, rfl⟩
        · -- else_t36
          exfalso; omega
def stepF (i : Input) (f : RF) (s : Input × List Int) : Option (Input × List Int) :=
  if (inValF i f.tag).2 = false then none else if 0 < f.most ∧ f.most < (inValF i f.tag).1 then none else some (withF s.1 f.tag (inValF i f.tag).1, s.2 ++ [(inValF i f.tag).1])
def valsGo (i : Input) : List RF → Input × List Int → Option (Input × List Int)
  | [], s => some s
  | f :: r, s => match stepF i f s with | none => none | some s' => valsGo i r s'
theorem valsGo_append (i : Input) (xs ys : List RF) (s : Input × List Int) : valsGo i (xs ++ ys) s = match valsGo i xs s with | none => none | some s' => valsGo i ys s' := by
  induction xs generalizing s with
  | nil => rfl
  | cons f r ih =>
    simp only [List.cons_append, valsGo]
    cases stepF i f s with
    | none => rfl
    | some s' => exact ih s'
theorem valsGo_snoc {i : Input} {l : List RF} {k : Nat} (hk : k < l.length) {s s' : Input × List Int} (h : valsGo i (l.take k) s = some s') : valsGo i (l.take (k + 1)) s = stepF i l[k]! s' := by
  have : l.take (k + 1) = l.take k ++ [l[k]!] := by
    rw [List.take_succ_eq_append_getElem hk, getElem!_pos l k hk]
  rw [this, valsGo_append, h]
  simp only [valsGo]
  cases stepF i l[k]! s' <;> rfl
theorem valsGo_none {i : Input} {l : List RF} {k : Nat} {s : Input × List Int} (h : valsGo i (l.take k) s = none) : valsGo i l s = none := by
  rw [← List.take_append_drop k l, valsGo_append, h]
def refE (i : Input) : Int :=
  if nameF i = 0 then 41 else match valsGo i (refFieldsF (nameF i)) (bareF (nameF i), []) with | none => 40 | some s => if s.1 = i then 0 else 40
def uenc (n : Int) : List Value := [.int .u64 n]
def ValuesPost (i : Input) (u : Value) (N : List Chunk) : Prop :=
  if refE i = 0 then ∃ s A c, nameF i ≠ 0 ∧ valsGo i (refFieldsF (nameF i)) (bareF (nameF i), []) = some s ∧ u = .tuple #[.slice A s.2.length c, .int .i64 0] ∧ N = [.own 24 1 (.slice A s.2.length c) s.2.length (s.2.flatMap uenc)]
  else u = .tuple #[.slice none 0 0, .int .i64 (refE i)]
theorem nameF_range (i : Input) (h : ¬ nameF i = 0) : 1 ≤ nameF i ∧ nameF i ≤ 4 := by
  unfold nameF at h ⊢
  split
  · omega
  · split
    · omega
    · rename_i h1 h2
      rw [if_neg h1, if_neg h2] at h
      exact absurd rfl h
theorem refFieldsF_small (k : Int) : (refFieldsF k).length ≤ 7 := by
  unfold refFieldsF
  split
  · exact Nat.le_of_ble_eq_true rfl
  · split
    · exact Nat.le_of_ble_eq_true rfl
    · split
      · exact Nat.le_of_ble_eq_true rfl
      · split <;> exact Nat.le_of_ble_eq_true rfl
theorem of_ndec {p : Prop} [Decidable p] (h : (!decide p) = false) : p := by
  by_cases hp : p
  · exact hp
  · rw [decide_eq_false hp] at h; cases h
theorem step_no {ok : Bool} {m n : Int} (c : (!ok || decide (0 < m) && decide (m < n)) = true) : ok = false ∨ (0 < m ∧ m < n) := by simpa using c
theorem step_yes {ok : Bool} {m n : Int} (c : (!ok || decide (0 < m) && decide (m < n)) = false) : ¬ ok = false ∧ ¬ (0 < m ∧ m < n) := by
  constructor
  · intro h; rw [h] at c; simp at c
  · rintro ⟨h1, h2⟩; simp [h1, h2] at c
set_option maxHeartbeats 4000000 in
set_option maxRecDepth 100000 in
theorem refValues {w : World} {i : Input} : Spec Go.Proofs.Tryz.prog 50 #[.agg i.enc.toArray] w [] (ValuesPost i) := by
  refine Spec.enter (fn := Go.Proofs.Tryz.f50) (n := 70) [.agg i.enc.toArray] Go.Proofs.Tryz.func50 (by kernel_rfl) rfl Go.Proofs.Tryz.ntmps50 Go.Proofs.Tryz.results50 rfl (Own.nil _) ?_
  refine JC.rs ?_
  refine Seq.box (cs := [_, _, _, _, _, _, _, _, _, _, _]) (k := ?_); intro b1
  refine Seq.p rfl Ev.assign ?_
  refine Seq.p rfl Ev.assign ?_
  refine Seq.nil ?_
  refine JC.rs ?_
  refine Seq.p rfl (Ev.ldBA ag.api_Input) ?_
  refine Seq.callP rfl (fun w hw => refName) ?_
  refine Seq.p rfl Ev.assign ?_
  refine Seq.nil ?_
  refine JC.seq ?_
  refine JC.rs ?_
  refine Seq.p rfl Ev.move ?_
  refine Seq.p rfl Ev.eq ?_
  refine Seq.nil ?_
  first | refine JC.c (ht := fun c14 => ?_) (hf := fun c14 => ?_) | refine JC.cb (ht := fun c14 => ?_) (hf := fun c14 => ?_)
  · -- then_t14
    refine JC.rs ?_
    refine Seq.p rfl Ev.assign ?_
    refine Seq.p rfl Ev.assign ?_
    refine Seq.nil ?_
    refine JC.ret ?_
    -- return 0
    show retQ _ _ _ _ _ _ _ _
    refine ret2 (hp := Part.nil _) (hpost := ?_)
    have hE : refE i = 41 := if_pos c14
    show ValuesPost _ _ _
    rw [ValuesPost, if_neg (by rw [hE]; decide), hE]
  · -- else_t14
    have hr := nameF_range i c14
    have hsm := refFieldsF_small (nameF i)
    have hE : refE i = match valsGo i (refFieldsF (nameF i)) (bareF (nameF i), []) with | none => 40 | some s => if s.1 = i then 0 else 40 := if_neg c14
    generalize hl : refFieldsF (nameF i) = l at hsm hE
    refine JC.skip ?_
    refine JC.rs ?_
    refine Seq.p rfl Ev.move ?_
    refine Seq.call rfl (fun w hw => hl ▸ refFields hr) (F := _) (by exact List.Perm.refl _) ?_
    rintro _ _ ⟨bl, rfl, rfl⟩
    refine Seq.p rfl Ev.assign ?_
    refine Seq.nil ?_
    refine JC.rs ?_
    refine Seq.p rfl Ev.move ?_
    refine Seq.callP rfl (fun w hw => refBare) ?_
    refine Seq.alloc (cs := [_, _, _, _, _, _, _, _, _, _, _]) (hz := z.api_Input) (k := ?_); intro b6
    refine Seq.storeN [_, _, _, _, _, _, _, _, _, _, _] sz.api_Input (k := ?_)
    refine Seq.nil ?_
    refine JC.rs ?_
    refine Seq.p rfl Ev.assign ?_
    refine Seq.re (fun w h => Upd.nilOwn h 24 1) ?_
    refine Seq.nil ?_
    refine JC.seq ?_
    refine JC.rs ?_
    refine Seq.p rfl Ev.assign ?_
    refine Seq.nil ?_
    refine JC.blk ?_
    refine JC.loop (α := Nat × Option Addr × Nat × Input × List Int) (I := fun s e1 H1 => Has [2, 3, 7, 8, 9, 10, 19, 20, 21, 22, 23, 24, 25, 26, 27, 28, 29, 30, 31, 32, 33, 34, 35, 36, 37, 38, 39, 40, 41, 42, 43, 44, 45, 46, 47, 48, 49, 50, 51, 52, 53, 54, 55, 56, 57, 58, 59, 60, 61, 62, 63, 64, 65] [(8, .int .i64 (s.1 : Int)), (7, .slice s.2.1 s.1 s.2.2.1)] _ e1 ∧ H1 = [.own 24 1 (.slice s.2.1 s.1 s.2.2.1) s.1 (s.2.2.2.2.flatMap uenc), .box b6 29 s.2.2.2.1.enc, .box bl 71 (l.flatMap RF.enc), .box b1 29 i.enc] ∧ s.1 ≤ l.length ∧ valsGo i (l.take s.1) (bareF (nameF i), []) = some (s.2.2.2.1, s.2.2.2.2) ∧ s.2.2.2.2.length = s.1) (μ := fun s => l.length - s.1) (0, none, 0, bareF (nameF i), []) ⟨Has.mk Off.refl (allLook_cons (by repeat (first | exact Look.here | apply Look.there (hne := rfl) | exact Look.const | apply Look.mix rfl | exact Look.arg0 | apply Look.args | exact Look.func)) (allLook_cons (by repeat (first | exact Look.here | apply Look.there (hne := rfl) | exact Look.const | apply Look.mix rfl | exact Look.arg0 | apply Look.args | exact Look.func)) allLook_nil)), rfl, by omega, rfl, rfl⟩ ?_
    rintro ⟨k, A, cc, agn, out⟩ _ _ ⟨⟨ui, rfl⟩, rfl, hk, hv, hol⟩; dsimp only [setL]; dsimp only at hk hv hol
    refine JC.seq ?_
    refine JC.rs ?_
    refine Seq.p rfl Ev.move ?_
    refine Seq.p rfl Ev.move ?_
    refine Seq.p rfl (Ev.lenSl sl.sl_bourseref04_field (hr := RAt.box (enc := RF.enc) (sz := 4) (hs := by omega))) ?_
    refine Seq.p rfl Ev.lt ?_
    refine Seq.nil ?_
    first | refine JC.c (ht := fun c22 => ?_) (hf := fun c22 => ?_) | refine JC.cb (ht := fun c22 => ?_) (hf := fun c22 => ?_)
    · -- then_t22
      have hk2 : k < l.length := by omega
      have hsn := valsGo_snoc hk2 hv
      refine JC.skip ?_
      refine JC.seq ?_
      refine JC.blk ?_
      refine JC.qs mixed (by kernel_rfl) ?_
      refine Qui.p rfl (Ev.ldBA ag.api_Input) ?_
      refine Qui.p rfl Ev.move ?_
      refine Qui.p rfl Ev.move ?_
      refine Qui.p rfl (Ev.iaN sl.sl_bourseref04_field (hr := RAt.box (enc := RF.enc) (sz := 4) (hs := by omega))) ?_
      refine Qui.p rfl (Ev.fa fd.bourseref04_field_0) ?_
      refine Qui.p rfl (Ev.ldE sc.int (hr := RAt.box (enc := RF.enc) (sz := 4) (hs := by omega))) ?_
      refine Qui.call rfl (fun w hw => refInVal) ?_
      refine Qui.p rfl Ev.move ?_
      refine Qui.p rfl Ev.extract ?_
      refine Qui.p rfl Ev.extract ?_
      refine Qui.p rfl Ev.assign ?_
      refine Qui.p rfl Ev.assign ?_
      refine Qui.nil ?_
      refine JC.seq ?_
      refine JC.rs ?_
      refine Seq.p rfl Ev.move ?_
      refine Seq.p rfl Ev.not ?_
      refine Seq.p rfl Ev.move ?_
      refine Seq.orG (D := [37, 38, 39, 40, 41, 42, 43, 44, 45, 46, 47, 48, 49, 50, 51, 52, 53]) (d := 37) (t := 53) (k := 16) (hn := fun h37 => ?_) (hx := ?_)
      · repeat (first | refine Seq.gn rfl rfl rfl rfl ?_ | refine Seq.gu rfl rfl rfl ?_)
        refine Seq.p rfl Ev.pickT ?_
        exact Seq.nil ⟨rfl, (by repeat (first | with_reducible exact Off.refl | refine Off.upd ?_ rfl | exact Off.mix | refine Off.mix2 ?_ rfl)), Look.here⟩
      apply Exists.intro
      refine ⟨fun h37 => ?_, fun u53 => ?_⟩
      · try simp only [decide_eq_true_eq, decide_eq_false_iff_not, Bool.and_eq_true, Bool.or_eq_true, Bool.not_eq_true', Bool.not_eq_false', Bool.or_eq_false_iff, Bool.and_eq_false_imp] at h37
        refine Seq.gy rfl rfl rfl ?_
        refine Seq.p rfl Ev.move ?_
        refine Seq.gy rfl rfl rfl ?_
        refine Seq.p rfl Ev.move ?_
        refine Seq.gy rfl rfl rfl ?_
        refine Seq.p rfl (Ev.iaN sl.sl_bourseref04_field (hr := RAt.box (enc := RF.enc) (sz := 4) (hs := by omega))) ?_
        refine Seq.gy rfl rfl rfl ?_
        refine Seq.p rfl (Ev.fa fd.bourseref04_field_1) ?_
        refine Seq.gy rfl rfl rfl ?_
        refine Seq.p rfl (Ev.ldE sc.uint64 (hr := RAt.box (enc := RF.enc) (sz := 4) (hs := by omega))) ?_
        refine Seq.gy rfl rfl rfl ?_
        refine Seq.p rfl Ev.gt ?_
        refine Seq.gy rfl rfl rfl ?_
        refine Seq.p rfl Ev.move ?_
        refine Seq.andG (D := [44, 45, 46, 47, 48, 49, 50, 51, 52]) (d := 44) (t := 52) (k := 8) (hn := fun h44 => ?_) (hx := ?_)
        · repeat (first | refine Seq.gn rfl rfl rfl rfl ?_ | refine Seq.gu rfl rfl rfl ?_)
          refine Seq.gy rfl rfl rfl ?_
          refine Seq.p rfl Ev.pickF ?_
          exact Seq.nil ⟨rfl, (by repeat (first | with_reducible exact Off.refl | refine Off.upd ?_ rfl | exact Off.mix | refine Off.mix2 ?_ rfl)), Look.here⟩
        apply Exists.intro
        refine ⟨fun h44 => ?_, fun u52 => ?_⟩
        · try simp only [decide_eq_true_eq, decide_eq_false_iff_not, Bool.and_eq_true, Bool.or_eq_true, Bool.not_eq_true', Bool.not_eq_false', Bool.or_eq_false_iff, Bool.and_eq_false_imp] at h44
          refine Seq.gy rfl rfl rfl ?_
          refine Seq.p rfl Ev.move ?_
          refine Seq.gy rfl rfl rfl ?_
          refine Seq.p rfl Ev.move ?_
          refine Seq.gy rfl rfl rfl ?_
          refine Seq.p rfl Ev.move ?_
          refine Seq.gy rfl rfl rfl ?_
          refine Seq.p rfl (Ev.iaN sl.sl_bourseref04_field (hr := RAt.box (enc := RF.enc) (sz := 4) (hs := by omega))) ?_
          refine Seq.gy rfl rfl rfl ?_
          refine Seq.p rfl (Ev.fa fd.bourseref04_field_1) ?_
          refine Seq.gy rfl rfl rfl ?_
          refine Seq.p rfl (Ev.ldE sc.uint64 (hr := RAt.box (enc := RF.enc) (sz := 4) (hs := by omega))) ?_
          refine Seq.gy rfl rfl rfl ?_
          refine Seq.p rfl Ev.gt ?_
          refine Seq.gy rfl rfl rfl ?_
          refine Seq.p rfl Ev.pickT ?_
          exact Seq.nil ⟨rfl, (by repeat (first | with_reducible exact Off.refl | refine Off.upd ?_ rfl | exact Off.mix | refine Off.mix2 ?_ rfl)), Look.here⟩
        refine Seq.p rfl Ev.pickF ?_
        exact Seq.nil ⟨rfl, (by repeat (first | with_reducible exact Off.refl | refine Off.upd ?_ rfl | exact Off.mix | refine Off.mix2 ?_ rfl)), Look.here⟩
      refine Seq.nil ?_
      first | refine JC.c (ht := fun c53 => ?_) (hf := fun c53 => ?_) | refine JC.cb (ht := fun c53 => ?_) (hf := fun c53 => ?_)
      · -- then_t53
        refine JC.rs ?_
        refine Seq.p rfl Ev.assign ?_
        refine Seq.p rfl Ev.assign ?_
        refine Seq.nil ?_
        refine JC.ret ?_
        -- return 1
        show retQ _ _ _ _ _ _ _ _
        refine ret2 (hp := Part.nil _) (hpost := ?_)
        have hst : stepF i l[k]! (agn, out) = none := by
          rw [stepF]
          rcases step_no c53 with h | h
          · rw [if_pos h]
          · by_cases h0 : (inValF i l[k]!.tag).2 = false
            · rw [if_pos h0]
            · rw [if_neg h0, if_pos h]
        rw [hst] at hsn
        have hE40 : refE i = 40 := by rw [hE, valsGo_none hsn]
        show ValuesPost _ _ _
        rw [ValuesPost, if_neg (by rw [hE40]; decide), hE40]
      · -- else_t53
        refine JC.skip ?_
        refine JC.asE 1 mixed ?_
        refine Any.p 1 rfl (by kernel_rfl) (by kernel_rfl) (by kernel_rfl) rfl Ev.move ?_
        refine Any.p 2 rfl (by kernel_rfl) (by kernel_rfl) (by kernel_rfl) rfl Ev.move ?_
        refine Any.p 3 rfl (by kernel_rfl) (by kernel_rfl) (by kernel_rfl) rfl (Ev.iaN sl.sl_bourseref04_field (hr := RAt.box (enc := RF.enc) (sz := 4) (hs := by omega))) ?_
        refine Any.p 4 rfl (by kernel_rfl) (by kernel_rfl) (by kernel_rfl) rfl (Ev.fa fd.bourseref04_field_0) ?_
        refine Any.p 5 rfl (by kernel_rfl) (by kernel_rfl) (by kernel_rfl) rfl (Ev.ldE sc.int (hr := RAt.box (enc := RF.enc) (sz := 4) (hs := by omega))) ?_
        refine Any.p 6 rfl (by kernel_rfl) (by kernel_rfl) (by kernel_rfl) rfl Ev.move ?_
        refine Any.one 0 rfl (by kernel_rfl) ?_
        refine Seq.p rfl (Ev.ldBA ag.api_Input) ?_
        refine Seq.nil ⟨(by repeat (first | exact Part.refl _ | exact Part.nil _ | apply Part.here | apply Part.skip)), ?_⟩
        refine Any.call 7 rfl (by kernel_rfl) (by kernel_rfl) (by kernel_rfl) rfl (fun w hw => refWith) ?_
        refine Any.one 8 rfl (by kernel_rfl) ?_
        refine Seq.storeN [_, _, _, _, _, _, _, _, _, _, _] sz.api_Input (k := ?_)
        refine Seq.nil ⟨(by repeat (first | exact Part.refl _ | exact Part.nil _ | apply Part.here | apply Part.skip)), ?_⟩
        refine Any.done (by kernel_rfl) ?_
        refine JC.reg ?_
        refine Seq.p rfl Ev.move ?_
        refine Seq.p rfl Ev.move ?_
        refine Seq.buildSlN [_] (hsl := sl.sl_uint64) (hz := z.uint64) (k := ?_); intro b64
        refine Seq.append (hsl := sl.sl_uint64) (he := el.uint64) (hsrc := (fun w' hw => Src.box (news := [.int .u64 (inValF i l[k]!.tag).1]) sl.sl_uint64 At.z hw rfl (by intro q u hu; cases q with | zero => exact hu | succ q => simp at hu))) (k := ?_); intro A65 c65
        refine Seq.p rfl Ev.assign ?_
        refine Seq.nil ?_
        refine JC.reg ?_
        refine Seq.p rfl Ev.move ?_
        refine Seq.p rfl (by first | exact Ev.inc | exact Ev.add) ?_
        refine Seq.p rfl Ev.assign ?_
        refine Seq.nil ?_
        have hst : stepF i l[k]! (agn, out) = some (withF agn l[k]!.tag (inValF i l[k]!.tag).1, out ++ [(inValF i l[k]!.tag).1]) := by rw [stepF, if_neg (step_yes c53).1, if_neg (step_yes c53).2]
        rw [hst] at hsn
        refine ⟨(k + 1, A65, c65, withF agn l[k]!.tag (inValF i l[k]!.tag).1, out ++ [(inValF i l[k]!.tag).1]), _, Part.skip (Part.refl _), ⟨Has.mk (by repeat (first | refine Off.upd ?_ rfl | exact Off.mix | refine Off.mix2 ?_ rfl | exact Off.refl)) (allLook_cons (by repeat (first | exact Look.here | apply Look.there (hne := rfl) | exact Look.const | apply Look.mix rfl | exact Look.arg0 | apply Look.args | exact Look.func)) (allLook_cons (by repeat (first | exact Look.here | apply Look.there (hne := rfl) | exact Look.const | apply Look.mix rfl | exact Look.arg0 | apply Look.args | exact Look.func)) allLook_nil)), by simp only [List.flatMap_append]; rfl, by show k + 1 ≤ l.length; omega, hsn, by simp [hol]⟩, by show l.length - (k + 1) < l.length - k; omega⟩
    · -- else_t22
      obtain rfl : k = l.length := by omega
      rw [List.take_length] at hv
      rw [hv] at hE
      dsimp only at hE
      refine JC.exit ?_ -- 0
      refine JC.seq ?_
      refine JC.rs ?_
      refine Seq.p rfl (Ev.ldBA ag.api_Input) ?_
      refine Seq.p rfl (Ev.ldBA ag.api_Input) ?_
      refine Seq.p rfl (Ev.neAg so.api_Input ag.api_Input gd.api_Input) ?_
      refine Seq.nil ?_
      first | refine JC.c (ht := fun c68 => ?_) (hf := fun c68 => ?_) | refine JC.cb (ht := fun c68 => ?_) (hf := fun c68 => ?_)
      · -- then_t68
        have c69 : (!eqL agn.enc i.enc) = true := c68
        rw [Input.eqL_enc] at c69
        have hne : ¬ agn = i := by simpa using c69
        rw [if_neg hne] at hE
        refine JC.rs ?_
        refine Seq.p rfl Ev.assign ?_
        refine Seq.p rfl Ev.assign ?_
        refine Seq.nil ?_
        refine JC.ret ?_
        -- return 2
        show retQ _ _ _ _ _ _ _ _
        refine ret2 (hp := Part.nil _) (hpost := ?_)
        show ValuesPost _ _ _
        rw [ValuesPost, if_neg (by rw [hE]; decide), hE]
      · -- else_t68
        have c69 : (!eqL agn.enc i.enc) = false := c68
        rw [Input.eqL_enc] at c69
        have heq : agn = i := by simpa using c69
        rw [if_pos heq] at hE
        refine JC.skip ?_
        refine JC.rs ?_
        refine Seq.p rfl Ev.move ?_
        refine Seq.p rfl Ev.assign ?_
        refine Seq.p rfl Ev.assign ?_
        refine Seq.nil ?_
        refine JC.ret ?_
        -- return 3
        show retQ _ _ _ _ _ _ _ _
        refine ret2 (hp := Part.here (Part.nil _)) (hpost := ?_)
        show ValuesPost _ _ _
        rw [ValuesPost, if_pos hE]
        refine ⟨(agn, out), A, cc, c14, by rw [hl]; exact hv, ?_, ?_⟩
        · show _ = Value.tuple #[.slice A out.length cc, _]; rw [hol]
        · show _ = [Chunk.own _ _ (.slice A out.length cc) out.length _]; rw [hol]
end Go.Rx
namespace Go.Rx
open Go Go.RowKit
set_option linter.unusedVariables false
set_option linter.unusedSimpArgs false
def laidStep (ws : List Int) (f : RF) (x : Int) : List Int := ws.set f.word.toNat (add64 ws[f.word.toNat]! (up x f.shift))
def laidGo : List RF → List Int → List Int → List Int
  | f :: l, x :: v, ws => laidGo l v (laidStep ws f x)
  | _, _, ws => ws
theorem laidGo_snoc (l : List RF) (v ws : List Int) (k : Nat) (h1 : k < l.length) (h2 : k < v.length) : laidGo (l.take (k + 1)) (v.take (k + 1)) ws = laidStep (laidGo (l.take k) (v.take k) ws) l[k]! v[k]! := by
  induction k generalizing l v ws with
  | zero =>
    cases l with
    | nil => simp at h1
    | cons f l => cases v with
      | nil => simp at h2
      | cons x v => rfl
  | succ k ih =>
    cases l with
    | nil => simp at h1
    | cons f l => cases v with
      | nil => simp at h2
      | cons x v =>
        simp only [List.length_cons] at h1 h2
        have := ih l v (laidStep ws f x) (by omega) (by omega)
        simp only [List.take_succ_cons, laidGo]
        rw [this]
        simp
theorem set_cells (k : Int) (ws : List Int) (i : Nat) (x : Int) (h : i < ws.length) :
    ((Value.int .u8 k :: ws.map (Value.int .u64)).take (1 + i * 1) ++ [Value.int .u64 x] ++ (Value.int .u8 k :: ws.map (Value.int .u64)).drop (1 + i * 1 + [Value.int .u64 x].length)) = Value.int .u8 k :: (ws.set i x).map (Value.int .u64) := by
  have e1 : 1 + i * 1 = i + 1 := by omega
  rw [e1]
  simp only [List.take_succ_cons, List.length_singleton, List.drop_succ_cons, List.cons_append]
  rw [List.map_set]
  congr 1
  rw [List.set_eq_take_append_cons_drop, if_pos (by simpa using h)]
  simp
theorem get_cells (k : Int) (ws : List Int) (i : Nat) (h : i < ws.length) : (Value.int .u8 k :: ws.map (Value.int .u64))[1 + i * 1]? = some (.int .u64 ws[i]!) := by
  have e1 : 1 + i * 1 = i + 1 := by omega
  rw [e1, List.getElem?_cons_succ, List.getElem?_map, getElem!_pos ws i h]
  simp [h]
theorem list7 {α : Type} {xs : List α} (h : xs.length = 7) : ∃ a b c d e f g, xs = [a, b, c, d, e, f, g] := by
  match xs, h with
  | [a, b, c, d, e, f, g], _ => exact ⟨a, b, c, d, e, f, g, rfl⟩
def laidF (k : Int) (l : List RF) (v : List Int) : Frame := ⟨k % 256, laidGo l v [0, 0, 0, 0, 0, 0, 0]⟩
theorem refFieldsF_words (k : Int) : ∀ f ∈ refFieldsF k, 0 ≤ f.word ∧ f.word < 7 ∧ 0 ≤ f.shift := by
  have h : ((refFieldsF k).all fun f => decide (0 ≤ f.word ∧ f.word < 7 ∧ 0 ≤ f.shift)) = true := by
    unfold refFieldsF
    split
    · rfl
    · split
      · rfl
      · split
        · rfl
        · split <;> rfl
  intro f hf
  exact of_decide_eq_true (List.all_eq_true.1 h f hf)
theorem valsGo_length {i : Input} : ∀ (l : List RF) (s s' : Input × List Int), valsGo i l s = some s' → s'.2.length = s.2.length + l.length
  | [], s, s', h => by
    simp only [valsGo, Option.some.injEq] at h
    subst h
    rfl
  | f :: r, s, s', h => by
    simp only [valsGo] at h
    cases hs : stepF i f s with
    | none => rw [hs] at h; cases h
    | some t =>
      rw [hs] at h
      have := valsGo_length r t s' h
      unfold stepF at hs
      split at hs
      · cases hs
      · split at hs
        · cases hs
        · simp only [Option.some.injEq] at hs
          subst hs
          simp only [List.length_append, List.length_singleton] at this
          simp only [List.length_cons]
          omega
theorem laidGo_length (l : List RF) (v ws : List Int) : (laidGo l v ws).length = ws.length := by
  induction l generalizing v ws with
  | nil => rfl
  | cons f l ih => cases v with
    | nil => rfl
    | cons x v =>
      simp only [laidGo]
      rw [ih, laidStep, List.length_set]
def refPackF (i : Input) : Frame × Int :=
  if refE i = 0 then (match valsGo i (refFieldsF (nameF i)) (bareF (nameF i), []) with | some s => laidF (nameF i) (refFieldsF (nameF i)) s.2 | none => frame0, 0) else (frame0, refE i)
end Go.Rx
namespace Go.Rx
open Go Go.RowKit
set_option linter.unusedVariables false
set_option linter.unusedSimpArgs false
structure Input.Wf (i : Input) : Prop where
  ckind : -9223372036854775808 ≤ i.ckind ∧ i.ckind ≤ 9223372036854775807
  id : 0 ≤ i.id ∧ i.id ≤ 18446744073709551615
  target : 0 ≤ i.target ∧ i.target ≤ 18446744073709551615
  member : 0 ≤ i.member ∧ i.member ≤ 4294967295
  side : -9223372036854775808 ≤ i.side ∧ i.side ≤ 9223372036854775807
  type : -9223372036854775808 ≤ i.type ∧ i.type ≤ 9223372036854775807
  price : -9223372036854775808 ≤ i.price ∧ i.price ≤ 9223372036854775807
  qty : 0 ≤ i.qty ∧ i.qty ≤ 18446744073709551615
  peak : 0 ≤ i.peak ∧ i.peak ≤ 18446744073709551615
  engine : -9223372036854775808 ≤ i.engine ∧ i.engine ≤ 9223372036854775807
theorem s64_mod {n : Int} (h : -9223372036854775808 ≤ n ∧ n ≤ 9223372036854775807) : s64 (n % 18446744073709551616) = n := by
  have h64 : (2 ^ IntKind.i64.bits : Int) = 18446744073709551616 := rfl
  have h63 : (2 ^ (IntKind.i64.bits - 1) : Int) = 9223372036854775808 := rfl
  have hs : IntKind.i64.signed = true := rfl
  simp only [s64, IntKind.wrap, h64, h63, hs, Bool.true_and, ge_iff_le, decide_eq_true_eq]
  split <;> omega
theorem s64_in {n : Int} (h : 0 ≤ n ∧ n ≤ 9223372036854775807) : s64 n = n := by
  have := s64_mod (n := n) (by omega)
  rwa [Int.emod_eq_of_lt h.1 (by omega)] at this
theorem up_zero {n : Int} (h : 0 ≤ n ∧ n ≤ 18446744073709551615) : up n 0 = n := by
  have h64 : (2 ^ IntKind.u64.bits : Int) = 18446744073709551616 := rfl
  have hs : IntKind.u64.signed = false := rfl
  have e : (2 : Int) ^ (min (Int.toNat 0) IntKind.u64.bits) = 1 := rfl
  simp only [up, IntKind.wrap, h64, hs, Bool.false_and, e, Int.mul_one]
  exact Int.emod_eq_of_lt h.1 (by omega)
theorem up_none (n : Int) : up 0 n = 0 := by
  have h64 : (2 ^ IntKind.u64.bits : Int) = 18446744073709551616 := rfl
  have hs : IntKind.u64.signed = false := rfl
  simp [up, IntKind.wrap, h64, hs]
theorem add64_zero {n : Int} (h : 0 ≤ n ∧ n ≤ 18446744073709551615) : add64 0 n = n := by
  rw [add64, Int.zero_add]
  exact Int.emod_eq_of_lt h.1 (by omega)
theorem add64_zero' {n : Int} (h : 0 ≤ n ∧ n ≤ 18446744073709551615) : add64 n 0 = n := by
  rw [add64, Int.add_zero]
  exact Int.emod_eq_of_lt h.1 (by omega)
theorem add64_range (a b : Int) : 0 ≤ add64 a b ∧ add64 a b ≤ 18446744073709551615 := by
  unfold add64
  omega
theorem pack_err {i : Input} {e : Int} (he : e ≠ 0) (h1 : toldE i = e) (h2 : refE i = e) : packF i = refPackF i := by
  rw [packF, refPackF, if_neg (by rw [h1]; exact he), if_neg (by rw [h2]; exact he), h1, h2]
theorem step_small {i : Input} {f : RF} {s : Input × List Int} {n : Int} (hn : -9223372036854775808 ≤ n ∧ n ≤ 9223372036854775807) (hv : inValF i f.tag = (n % 18446744073709551616, decide (0 ≤ n))) (hm : 0 < f.most ∧ f.most ≤ 4294967295) :
    stepF i f s = if 0 ≤ n ∧ n ≤ f.most then some (withF s.1 f.tag (n % 18446744073709551616), s.2 ++ [n % 18446744073709551616]) else none := by
  unfold stepF
  rw [hv]
  by_cases h0 : 0 ≤ n
  · have e1 : n % 18446744073709551616 = n := Int.emod_eq_of_lt h0 (by omega)
    simp only [e1, h0, decide_true, true_and]
    by_cases h1 : n ≤ f.most
    · rw [if_pos h1, if_neg (by simp), if_neg (by omega)]
    · rw [if_neg h1, if_neg (by simp), if_pos ⟨hm.1, by omega⟩]
  · rw [if_pos (by simp [h0]), if_neg (fun h => h0 h.1)]
theorem step_any {i : Input} {f : RF} {s : Input × List Int} {n : Int} (hv : inValF i f.tag = (n, true)) (hm : f.most = 0 ∨ n ≤ f.most) :
    stepF i f s = some (withF s.1 f.tag n, s.2 ++ [n]) := by
  unfold stepF
  rw [hv, if_neg (by simp), if_neg (by simp only; omega)]
theorem pack_new {i : Input} (hw : i.Wf) (h1 : i.kind = 1) (h2 : i.ckind = 1) : packF i = refPackF i := by
  have hF : fieldsF i = some (1, ⟨#[68]⟩, [wholeF 11 i.id, wholeF 1 (i.member % 18446744073709551616), upToF 54 i.side 255, upToF 40 i.type 255, upToF 44 i.price 4294967295, wholeF 38 i.qty, wholeF 210 i.peak]) := by
    rw [fieldsF, if_neg (by omega), if_neg (by omega), if_pos h2]
  have hN : nameF i = 1 := by rw [nameF, if_neg (by omega), if_pos (by omega), h2]
  have hm := hw.member
  have em : i.member % 18446744073709551616 = i.member := Int.emod_eq_of_lt hm.1 (by omega)
  have em2 : i.member % 4294967296 = i.member := Int.emod_eq_of_lt hm.1 (by omega)
  have hR : refE i = match valsGo i (refFieldsF 1) (bareF 1, []) with | none => 40 | some s => if s.1 = i then 0 else 40 := by
    rw [refE, hN]
    rfl
  have v1 : stepF i ⟨11, 0, 0, 0⟩ (bareF 1, []) = _ := step_any (n := i.id) rfl (.inl rfl)
  have v2 : ∀ s, stepF i ⟨1, 4294967295, 2, 0⟩ s = _ := fun s => step_any (n := i.member % 18446744073709551616) rfl (.inr (by rw [em]; exact hm.2))
  have v3 : ∀ s, stepF i ⟨54, 255, 2, 32⟩ s = _ := fun s => step_small hw.side rfl (by decide)
  have v4 : ∀ s, stepF i ⟨40, 255, 2, 40⟩ s = _ := fun s => step_small hw.type rfl (by decide)
  have v5 : ∀ s, stepF i ⟨44, 4294967295, 3, 0⟩ s = _ := fun s => step_small hw.price rfl (by decide)
  have v6 : ∀ s, stepF i ⟨38, 0, 4, 0⟩ s = _ := fun s => step_any (n := i.qty) rfl (.inl rfl)
  have v7 : ∀ s, stepF i ⟨210, 0, 5, 0⟩ s = _ := fun s => step_any (n := i.peak) rfl (.inl rfl)
  have hV : valsGo i (refFieldsF 1) (bareF 1, []) = valsGo i [⟨11, 0, 0, 0⟩, ⟨1, 4294967295, 2, 0⟩, ⟨54, 255, 2, 32⟩, ⟨40, 255, 2, 40⟩, ⟨44, 4294967295, 3, 0⟩, ⟨38, 0, 4, 0⟩, ⟨210, 0, 5, 0⟩] (bareF 1, []) := rfl
  by_cases hs : (0 ≤ i.side ∧ i.side ≤ 255) ∧ (0 ≤ i.type ∧ i.type ≤ 255) ∧ (0 ≤ i.price ∧ i.price ≤ 4294967295)
  · obtain ⟨b1, b2, b3⟩ := hs
    have es : i.side % 18446744073709551616 = i.side := Int.emod_eq_of_lt b1.1 (by omega)
    have et : i.type % 18446744073709551616 = i.type := Int.emod_eq_of_lt b2.1 (by omega)
    have ep : i.price % 18446744073709551616 = i.price := Int.emod_eq_of_lt b3.1 (by omega)
    have fs : s64 i.side = i.side := s64_in (by omega)
    have ft : s64 i.type = i.type := s64_in (by omega)
    have fp : s64 i.price = i.price := s64_in (by omega)
    simp only [valsGo, v1, v2, v3, v4, v5, v6, v7, if_pos b1, if_pos b2, if_pos b3, List.nil_append, List.cons_append] at hV
    have hs1 : valsGo i (refFieldsF 1) (bareF 1, []) = some (⟨1, 1, i.id, 0, i.member, i.side, i.type, i.price, i.qty, i.peak, 0⟩, [i.id, i.member, i.side, i.type, i.price, i.qty, i.peak]) := by
      rw [hV]
      simp [withF, bareF, em, em2, es, et, ep, fs, ft, fp]
    have hI : inputF 1 (numsF [wholeF 11 i.id, wholeF 1 (i.member % 18446744073709551616), upToF 54 i.side 255, upToF 40 i.type 255, upToF 44 i.price 4294967295, wholeF 38 i.qty, wholeF 210 i.peak]) = ⟨1, 1, i.id, 0, i.member, i.side, i.type, i.price, i.qty, i.peak, 0⟩ := by
      simp [wholeF, upToF, numsF, iput, inputF, iget, em, em2, es, et, ep, fs, ft, fp]
      rfl
    have hA : ([wholeF 11 i.id, wholeF 1 (i.member % 18446744073709551616), upToF 54 i.side 255, upToF 40 i.type 255, upToF 44 i.price 4294967295, wholeF 38 i.qty, wholeF 210 i.peak].all (·.fits)) = true := by
      simp [wholeF, upToF, b1, b2, b3]
    by_cases hX : (⟨1, 1, i.id, 0, i.member, i.side, i.type, i.price, i.qty, i.peak, 0⟩ : Input) = i
    · have t0 : toldE i = 0 := by
        rw [toldE, hF]
        exact if_pos ⟨hA, by rw [hI]; exact hX⟩
      have r0 : refE i = 0 := by
        rw [hR, hs1]
        exact if_pos hX
      rw [packF, refPackF, if_pos t0, if_pos r0, hF, hN, hs1]
      have q1 := hw.id
      have q2 := hw.qty
      have q3 := hw.peak
      have x1 := up_zero hw.id
      have x2 : up i.member 0 = i.member := up_zero (by omega)
      have x3 : up i.price 0 = i.price := up_zero (by omega)
      have x4 := up_zero hw.qty
      have x5 := up_zero hw.peak
      have y1 := add64_zero hw.id
      have y1' := add64_zero' hw.id
      have y2 : add64 0 i.member = i.member := add64_zero (by omega)
      have y3 : add64 0 i.price = i.price := add64_zero (by omega)
      have y4 := add64_zero hw.qty
      have y5 := add64_zero hw.peak
      simp [frameF, laidF, refFieldsF, laidGo, laidStep, wholeF, upToF, numsF, iput, iget, em, es, et, ep, x1, x2, x3, x4, x5, y1, y1', y2, y3, y4, y5]
    · refine pack_err (e := 40) (by decide) ?_ ?_
      · rw [toldE, hF]
        exact if_neg (fun h => hX (by rw [← hI]; exact h.2))
      · rw [hR, hs1]
        exact if_neg hX
  · refine pack_err (e := 40) (by decide) ?_ ?_
    · rw [toldE, hF]
      refine if_neg (fun h => hs ?_)
      have := h.1
      simpa [wholeF, upToF, and_assoc] using this
    · rw [hR, hV]
      simp only [valsGo, v1, v2, v3, v4, v5, v6, v7]
      by_cases b1 : 0 ≤ i.side ∧ i.side ≤ 255
      · by_cases b2 : 0 ≤ i.type ∧ i.type ≤ 255
        · have b3 : ¬ (0 ≤ i.price ∧ i.price ≤ 4294967295) := fun b3 => hs ⟨b1, b2, b3⟩
          simp only [if_pos b1, if_pos b2, if_neg b3]
        · simp only [if_pos b1, if_neg b2]
      · simp only [if_neg b1]
end Go.Rx
namespace Go.Rx
open Go Go.RowKit
set_option linter.unusedVariables false
set_option linter.unusedSimpArgs false
theorem pack_cancel {i : Input} (hw : i.Wf) (h1 : i.kind = 1) (h2 : i.ckind = 2) : packF i = refPackF i := by
  have hF : fieldsF i = some (2, ⟨#[70]⟩, [wholeF 41 i.target]) := by
    rw [fieldsF, if_neg (by omega), if_neg (by omega), if_neg (by omega), if_pos h2]
  have hN : nameF i = 2 := by rw [nameF, if_neg (by omega), if_pos (by omega), h2]
  have hR : refE i = match valsGo i (refFieldsF 2) (bareF 2, []) with | none => 40 | some s => if s.1 = i then 0 else 40 := by
    rw [refE, hN]
    rfl
  have v0 : ∀ s, stepF i ⟨41, 0, 1, 0⟩ s = _ := fun s => step_any (n := i.target) rfl (.inl rfl)
  have hV : valsGo i (refFieldsF 2) (bareF 2, []) = valsGo i [⟨41, 0, 1, 0⟩] (bareF 2, []) := rfl
  simp only [valsGo, v0, List.nil_append, List.cons_append] at hV
  have hs1 : valsGo i (refFieldsF 2) (bareF 2, []) = some (⟨1, 2, 0, i.target, 0, 0, 0, 0, 0, 0, 0⟩, [i.target]) := by
    rw [hV]
    simp [withF, bareF]
  have hI : inputF 2 (numsF [wholeF 41 i.target]) = ⟨1, 2, 0, i.target, 0, 0, 0, 0, 0, 0, 0⟩ := by
    simp [wholeF, upToF, numsF, iput, inputF, iget]
    all_goals first | rfl | exact ⟨rfl, rfl⟩
  have hA : ([wholeF 41 i.target].all (·.fits)) = true := by
    simp [wholeF, upToF]
  by_cases hX : (⟨1, 2, 0, i.target, 0, 0, 0, 0, 0, 0, 0⟩ : Input) = i
  · have t0 : toldE i = 0 := by
      rw [toldE, hF]
      exact if_pos ⟨hA, by rw [hI]; exact hX⟩
    have r0 : refE i = 0 := by
      rw [hR, hs1]
      exact if_pos hX
    rw [packF, refPackF, if_pos t0, if_pos r0, hF, hN, hs1]
    have x0 := up_zero hw.target
    have y0 := add64_zero hw.target
    have z0 := add64_zero' hw.target
    have zz : add64 0 0 = 0 := rfl
    simp [frameF, laidF, refFieldsF, laidGo, laidStep, wholeF, upToF, numsF, iput, iget, up_none, zz, x0, y0, z0]
  · refine pack_err (e := 40) (by decide) ?_ ?_
    · rw [toldE, hF]
      exact if_neg (fun h => hX (by rw [← hI]; exact h.2))
    · rw [hR, hs1]
      exact if_neg hX
theorem pack_replace {i : Input} (hw : i.Wf) (h1 : i.kind = 1) (h2 : i.ckind = 3) : packF i = refPackF i := by
  have hF : fieldsF i = some (3, ⟨#[71]⟩, [wholeF 41 i.target, wholeF 11 i.id, upToF 44 i.price 4294967295, wholeF 38 i.qty, wholeF 210 i.peak]) := by
    rw [fieldsF, if_neg (by omega), if_neg (by omega), if_neg (by omega), if_neg (by omega), if_pos h2]
  have hN : nameF i = 3 := by rw [nameF, if_neg (by omega), if_pos (by omega), h2]
  have hR : refE i = match valsGo i (refFieldsF 3) (bareF 3, []) with | none => 40 | some s => if s.1 = i then 0 else 40 := by
    rw [refE, hN]
    rfl
  have v0 : ∀ s, stepF i ⟨41, 0, 1, 0⟩ s = _ := fun s => step_any (n := i.target) rfl (.inl rfl)
  have v1 : ∀ s, stepF i ⟨11, 0, 0, 0⟩ s = _ := fun s => step_any (n := i.id) rfl (.inl rfl)
  have v2 : ∀ s, stepF i ⟨44, 4294967295, 3, 0⟩ s = _ := fun s => step_small hw.price rfl (by decide)
  have v3 : ∀ s, stepF i ⟨38, 0, 4, 0⟩ s = _ := fun s => step_any (n := i.qty) rfl (.inl rfl)
  have v4 : ∀ s, stepF i ⟨210, 0, 5, 0⟩ s = _ := fun s => step_any (n := i.peak) rfl (.inl rfl)
  have hV : valsGo i (refFieldsF 3) (bareF 3, []) = valsGo i [⟨41, 0, 1, 0⟩, ⟨11, 0, 0, 0⟩, ⟨44, 4294967295, 3, 0⟩, ⟨38, 0, 4, 0⟩, ⟨210, 0, 5, 0⟩] (bareF 3, []) := rfl
  by_cases b : 0 ≤ i.price ∧ i.price ≤ 4294967295
  · have em : i.price % 18446744073709551616 = i.price := Int.emod_eq_of_lt b.1 (by omega)
    have fm : s64 i.price = i.price := s64_in (by omega)
    simp only [valsGo, v0, v1, v2, v3, v4, if_pos b, List.nil_append, List.cons_append] at hV
    have hs1 : valsGo i (refFieldsF 3) (bareF 3, []) = some (⟨1, 3, i.id, i.target, 0, 0, 0, i.price, i.qty, i.peak, 0⟩, [i.target, i.id, i.price, i.qty, i.peak]) := by
      rw [hV]
      simp [withF, bareF, em, fm]
    have hI : inputF 3 (numsF [wholeF 41 i.target, wholeF 11 i.id, upToF 44 i.price 4294967295, wholeF 38 i.qty, wholeF 210 i.peak]) = ⟨1, 3, i.id, i.target, 0, 0, 0, i.price, i.qty, i.peak, 0⟩ := by
      simp [wholeF, upToF, numsF, iput, inputF, iget, em, fm]
      all_goals first | rfl | exact ⟨rfl, rfl⟩
    have hA : ([wholeF 41 i.target, wholeF 11 i.id, upToF 44 i.price 4294967295, wholeF 38 i.qty, wholeF 210 i.peak].all (·.fits)) = true := by
      simp [wholeF, upToF, b]
    by_cases hX : (⟨1, 3, i.id, i.target, 0, 0, 0, i.price, i.qty, i.peak, 0⟩ : Input) = i
    · have t0 : toldE i = 0 := by
        rw [toldE, hF]
        exact if_pos ⟨hA, by rw [hI]; exact hX⟩
      have r0 : refE i = 0 := by
        rw [hR, hs1]
        exact if_pos hX
      rw [packF, refPackF, if_pos t0, if_pos r0, hF, hN, hs1]
      have x0 := up_zero hw.target
      have y0 := add64_zero hw.target
      have z0 := add64_zero' hw.target
      have x1 := up_zero hw.id
      have y1 := add64_zero hw.id
      have z1 := add64_zero' hw.id
      have x2 : up i.price 0 = i.price := up_zero (by omega)
      have y2 : add64 0 i.price = i.price := add64_zero (by omega)
      have z2 : add64 i.price 0 = i.price := add64_zero' (by omega)
      have x3 := up_zero hw.qty
      have y3 := add64_zero hw.qty
      have z3 := add64_zero' hw.qty
      have x4 := up_zero hw.peak
      have y4 := add64_zero hw.peak
      have z4 := add64_zero' hw.peak
      have zz : add64 0 0 = 0 := rfl
      simp [frameF, laidF, refFieldsF, laidGo, laidStep, wholeF, upToF, numsF, iput, iget, up_none, zz, em, x0, y0, z0, x1, y1, z1, x2, y2, z2, x3, y3, z3, x4, y4, z4]
    · refine pack_err (e := 40) (by decide) ?_ ?_
      · rw [toldE, hF]
        exact if_neg (fun h => hX (by rw [← hI]; exact h.2))
      · rw [hR, hs1]
        exact if_neg hX
  · refine pack_err (e := 40) (by decide) ?_ ?_
    · rw [toldE, hF]
      refine if_neg (fun h => b ?_)
      have := h.1
      simpa [wholeF, upToF, and_assoc] using this
    · rw [hR, hV]
      simp only [valsGo, v0, v1, v2, v3, v4, if_neg b]
theorem pack_engine {i : Input} (hw : i.Wf) (h1 : i.kind = 2) : packF i = refPackF i := by
  have hF : fieldsF i = some (4, ⟨#[85, 69]⟩, [upToF 9001 i.engine 255]) := by
    rw [fieldsF, if_pos h1]
  have hN : nameF i = 4 := by rw [nameF, if_pos h1]
  have hR : refE i = match valsGo i (refFieldsF 4) (bareF 4, []) with | none => 40 | some s => if s.1 = i then 0 else 40 := by
    rw [refE, hN]
    rfl
  have v0 : ∀ s, stepF i ⟨9001, 255, 0, 0⟩ s = _ := fun s => step_small hw.engine rfl (by decide)
  have hV : valsGo i (refFieldsF 4) (bareF 4, []) = valsGo i [⟨9001, 255, 0, 0⟩] (bareF 4, []) := rfl
  by_cases b : 0 ≤ i.engine ∧ i.engine ≤ 255
  · have em : i.engine % 18446744073709551616 = i.engine := Int.emod_eq_of_lt b.1 (by omega)
    have fm : s64 i.engine = i.engine := s64_in (by omega)
    simp only [valsGo, v0, if_pos b, List.nil_append, List.cons_append] at hV
    have hs1 : valsGo i (refFieldsF 4) (bareF 4, []) = some (⟨2, 0, 0, 0, 0, 0, 0, 0, 0, 0, i.engine⟩, [i.engine]) := by
      rw [hV]
      simp [withF, bareF, em, fm]
    have hI : inputF 4 (numsF [upToF 9001 i.engine 255]) = ⟨2, 0, 0, 0, 0, 0, 0, 0, 0, 0, i.engine⟩ := by
      simp [wholeF, upToF, numsF, iput, inputF, iget, em, fm]
      all_goals first | rfl | exact ⟨rfl, rfl⟩
    have hA : ([upToF 9001 i.engine 255].all (·.fits)) = true := by
      simp [wholeF, upToF, b]
    by_cases hX : (⟨2, 0, 0, 0, 0, 0, 0, 0, 0, 0, i.engine⟩ : Input) = i
    · have t0 : toldE i = 0 := by
        rw [toldE, hF]
        exact if_pos ⟨hA, by rw [hI]; exact hX⟩
      have r0 : refE i = 0 := by
        rw [hR, hs1]
        exact if_pos hX
      rw [packF, refPackF, if_pos t0, if_pos r0, hF, hN, hs1]
      have x0 : up i.engine 0 = i.engine := up_zero (by omega)
      have y0 : add64 0 i.engine = i.engine := add64_zero (by omega)
      have z0 : add64 i.engine 0 = i.engine := add64_zero' (by omega)
      have zz : add64 0 0 = 0 := rfl
      simp [frameF, laidF, refFieldsF, laidGo, laidStep, wholeF, upToF, numsF, iput, iget, up_none, zz, em, x0, y0, z0]
    · refine pack_err (e := 40) (by decide) ?_ ?_
      · rw [toldE, hF]
        exact if_neg (fun h => hX (by rw [← hI]; exact h.2))
      · rw [hR, hs1]
        exact if_neg hX
  · refine pack_err (e := 40) (by decide) ?_ ?_
    · rw [toldE, hF]
      refine if_neg (fun h => b ?_)
      have := h.1
      simpa [wholeF, upToF, and_assoc] using this
    · rw [hR, hV]
      simp only [valsGo, v0, if_neg b]
theorem pack_none {i : Input} (h1 : ¬ i.kind = 2) (h2 : ¬ (i.kind = 1 ∧ 1 ≤ i.ckind ∧ i.ckind ≤ 3)) : packF i = refPackF i := by
  have hF : fieldsF i = none := by
    rw [fieldsF, if_neg h1]
    by_cases h : i.kind = 1
    · rw [if_neg (by omega), if_neg (by omega), if_neg (by omega), if_neg (by omega)]
    · rw [if_pos h]
  refine pack_err (e := 41) (by decide) ?_ ?_
  · rw [toldE, hF]
  · exact if_pos (by rw [nameF, if_neg h1, if_neg h2])
theorem pack_eq {i : Input} (hw : i.Wf) : packF i = refPackF i := by
  by_cases h1 : i.kind = 2
  · exact pack_engine hw h1
  · by_cases h2 : i.kind = 1 ∧ 1 ≤ i.ckind ∧ i.ckind ≤ 3
    · have : i.ckind = 1 ∨ i.ckind = 2 ∨ i.ckind = 3 := by omega
      rcases this with h | h | h
      · exact pack_new hw h2.1 h
      · exact pack_cancel hw h2.1 h
      · exact pack_replace hw h2.1 h
    · exact pack_none h1 h2
end Go.Rx
/- The law bourselaw04.MessagePacks gives true, whatever the input; the input reads as it did. No condition beyond the row's own. -/
namespace Go.Rx
open Go Go.RowKit Go.WideShapes
set_option linter.unusedVariables false
set_option linter.unusedSimpArgs false
theorem packF_len (i : Input) : (packF i).1.words.length = 7 := by
  unfold packF
  split
  · split <;> rfl
  · rfl
theorem eqL_refl : ∀ (l : List Value), l.all (fun v => match v with | .int _ _ => true | .bool _ => true | _ => false) = true → eqL l l = true
  | [], _ => rfl
  | v :: r, h => by
    simp only [List.all_cons, Bool.and_eq_true] at h
    have := eqL_refl r h.2
    cases v <;> simp_all [eqL, eqV]
theorem isSort_int' {k : IntKind} {v : Value} (h : isSort (.int k) v = true) (hw : wfV v = true) : ∃ n, v = .int k n ∧ (Lit.int k n).wf = true := by
  obtain ⟨n, rfl⟩ := isSort_int h
  exact ⟨n, rfl, hw⟩
theorem wf_bounds {k : IntKind} {n : Int} (h : (Lit.int k n).wf = true) : k.min ≤ n ∧ n ≤ k.max := by
  unfold Lit.wf at h
  rw [Bool.and_eq_true] at h
  exact ⟨of_decide_eq_true h.1, of_decide_eq_true h.2⟩
set_option maxRecDepth 100000 in
theorem open_input {H : Type} {enc : TypeId × Value → H} {W : World} {base : Nat} {v : Value} {d : DataW H} {p : List MemPlace} (hv : Value.okWide Go.Proofs.Tryz.prog W .any base 29 v) (h : DataW.Trod enc Go.Proofs.Tryz.prog W 0 (fun _ => true) true 29 v d p) :
    ∃ i : Input, v = .agg i.enc.toArray ∧ i.Wf := by
  obtain ⟨cs, rfl, hcs⟩ := okWide_struct Go.Proofs.Tryz.underlying29 hv
  obtain ⟨fuel, hf⟩ := h
  have hp := trod_plain 20 _ _ so.api_Input fuel _ _ hf
  have e : (Value.agg cs).cells.toList = cs.toList := rfl
  rw [e] at hp
  obtain ⟨ha, hb⟩ := hp
  obtain ⟨c0, r0, q0, i0, ha⟩ := areSorts_cons ha
  obtain ⟨c1, r1, rfl, i1, ha⟩ := areSorts_cons ha
  obtain ⟨c2, r2, rfl, i2, ha⟩ := areSorts_cons ha
  obtain ⟨c3, r3, rfl, i3, ha⟩ := areSorts_cons ha
  obtain ⟨c4, r4, rfl, i4, ha⟩ := areSorts_cons ha
  obtain ⟨c5, r5, rfl, i5, ha⟩ := areSorts_cons ha
  obtain ⟨c6, r6, rfl, i6, ha⟩ := areSorts_cons ha
  obtain ⟨c7, r7, rfl, i7, ha⟩ := areSorts_cons ha
  obtain ⟨c8, r8, rfl, i8, ha⟩ := areSorts_cons ha
  obtain ⟨c9, r9, rfl, i9, ha⟩ := areSorts_cons ha
  obtain ⟨c10, r10, rfl, i10, ha⟩ := areSorts_cons ha
  obtain rfl := areSorts_nil ha
  rw [q0] at hb
  simp only [List.all_cons, List.all_nil, Bool.and_eq_true] at hb
  obtain ⟨n0, rfl, w0⟩ := isSort_int' i0 hb.1
  obtain ⟨n1, rfl, w1⟩ := isSort_int' i1 hb.2.1
  obtain ⟨n2, rfl, w2⟩ := isSort_int' i2 hb.2.2.1
  obtain ⟨n3, rfl, w3⟩ := isSort_int' i3 hb.2.2.2.1
  obtain ⟨n4, rfl, w4⟩ := isSort_int' i4 hb.2.2.2.2.1
  obtain ⟨n5, rfl, w5⟩ := isSort_int' i5 hb.2.2.2.2.2.1
  obtain ⟨n6, rfl, w6⟩ := isSort_int' i6 hb.2.2.2.2.2.2.1
  obtain ⟨n7, rfl, w7⟩ := isSort_int' i7 hb.2.2.2.2.2.2.2.1
  obtain ⟨n8, rfl, w8⟩ := isSort_int' i8 hb.2.2.2.2.2.2.2.2.1
  obtain ⟨n9, rfl, w9⟩ := isSort_int' i9 hb.2.2.2.2.2.2.2.2.2.1
  obtain ⟨n10, rfl, w10⟩ := isSort_int' i10 hb.2.2.2.2.2.2.2.2.2.2.1
  refine ⟨⟨n0, n1, n2, n3, n4, n5, n6, n7, n8, n9, n10⟩, ?_, ⟨wf_bounds w1, wf_bounds w2, wf_bounds w3, wf_bounds w4, wf_bounds w5, wf_bounds w6, wf_bounds w7, wf_bounds w8, wf_bounds w9, wf_bounds w10⟩⟩
  congr 1
  apply Array.ext'
  rw [q0]
  rfl
end Go.Rx
namespace Go.Proofs.YthpejgmkiomfhaaGreatDoor
open Go Go.RowKit Go.WideShapes Go.ChangeShapes Go.ChangeAt Go.Rx
set_option linter.unusedVariables false
end Go.Proofs.YthpejgmkiomfhaaGreatDoor
namespace Go.Rx
open Go Go.RowKit
set_option linter.unusedVariables false
set_option linter.unusedSimpArgs false
structure Event where
  seq : Int
  kind : Int
  id : Int
  other : Int
  target : Int
  member : Int
  side : Int
  type : Int
  price : Int
  qty : Int
  peak : Int
  reason : Int
  code : Int
deriving DecidableEq, Inhabited
def Event.enc (e : Event) : List Value := [.int .u64 e.seq, .int .i64 e.kind, .int .u64 e.id, .int .u64 e.other, .int .u64 e.target, .int .u32 e.member, .int .i64 e.side, .int .i64 e.type, .int .i64 e.price, .int .u64 e.qty, .int .u64 e.peak, .int .i64 e.reason, .int .i64 e.code]
theorem Event.eqL_enc (x y : Event) : eqL x.enc y.enc = decide (x = y) := by
  cases x; cases y
  simp [Event.enc, eqL, eqV, Bool.decide_and]
def eventOfF (k : Int) (ms : List (Int × Int)) : Event :=
  ⟨iget ms 34, k, iget ms 11, iget ms 37, iget ms 41, iget ms 1 % 4294967296, s64 (iget ms 54), s64 (iget ms 40), s64 (iget ms 44), iget ms 38, iget ms 210, s64 (iget ms 378), s64 (iget ms 103)⟩
def eventValueF (e : Event) (t : Int) : Int × Bool :=
  if t = 34 then (e.seq, true) else if t = 11 then (e.id, true) else if t = 41 then (e.target, true) else if t = 37 then (e.other, true) else if t = 1 then (e.member % 18446744073709551616, true) else if t = 38 then (e.qty, true) else if t = 210 then (e.peak, true)
  else
    let n := if t = 54 then e.side else if t = 40 then e.type else if t = 44 then e.price else if t = 378 then e.reason else if t = 103 then e.code else 0
    (n % 18446744073709551616, decide (0 ≤ n))
def withEventF (e : Event) (t n : Int) : Event :=
  if t = 34 then { e with seq := n } else if t = 11 then { e with id := n } else if t = 41 then { e with target := n } else if t = 37 then { e with other := n } else if t = 1 then { e with member := n % 4294967296 } else if t = 38 then { e with qty := n } else if t = 210 then { e with peak := n }
  else if t = 54 then { e with side := s64 n } else if t = 40 then { e with type := s64 n } else if t = 44 then { e with price := s64 n } else if t = 378 then { e with reason := s64 n } else if t = 103 then { e with code := s64 n } else e
set_option maxHeartbeats 2000000 in
theorem msgEventOf {w : World} {k : Int} {v : Value} {ms : List (Int × Int)} (hm : RMp .i64 .u64 w [] v ms) : Spec Go.Proofs.Tryz.prog 31 #[.int .i64 k, v] w [] (fun u _ => u = .agg (eventOfF k ms).enc.toArray) := by
  refine Spec.enter (fn := Go.Proofs.Tryz.f31) (n := 37) [.int .i64 k, v] Go.Proofs.Tryz.func31 (by kernel_rfl) rfl Go.Proofs.Tryz.ntmps31 Go.Proofs.Tryz.results31 rfl (Own.nil _) ?_
  refine JC.rs ?_
  refine Seq.alloc (cs := [_, _, _, _, _, _, _, _, _, _, _, _, _]) (hz := z.api_Event) (k := ?_); intro b4
  refine Seq.nil ?_
  refine JC.rs ?_
  refine Seq.p rfl Ev.move ?_
  refine Seq.p rfl (Ev.mapI mp.m_int_uint64 z.uint64 hm.r) ?_
  refine Seq.p rfl Ev.move ?_
  refine Seq.p rfl Ev.move ?_
  refine Seq.p rfl (Ev.mapI mp.m_int_uint64 z.uint64 hm.r) ?_
  refine Seq.p rfl Ev.move ?_
  refine Seq.p rfl (Ev.mapI mp.m_int_uint64 z.uint64 hm.r) ?_
  refine Seq.p rfl Ev.move ?_
  refine Seq.p rfl (Ev.mapI mp.m_int_uint64 z.uint64 hm.r) ?_
  refine Seq.p rfl Ev.move ?_
  refine Seq.p rfl (Ev.mapI mp.m_int_uint64 z.uint64 hm.r) ?_
  refine Seq.p rfl (Ev.convU32W it.uint64 it.uint32) ?_
  refine Seq.p rfl Ev.move ?_
  refine Seq.p rfl (Ev.mapI mp.m_int_uint64 z.uint64 hm.r) ?_
  refine Seq.p rfl (Ev.convW it.uint64 it.int) ?_
  refine Seq.p rfl Ev.move ?_
  refine Seq.p rfl (Ev.mapI mp.m_int_uint64 z.uint64 hm.r) ?_
  refine Seq.p rfl (Ev.convW it.uint64 it.int) ?_
  refine Seq.p rfl Ev.move ?_
  refine Seq.p rfl (Ev.mapI mp.m_int_uint64 z.uint64 hm.r) ?_
  refine Seq.p rfl (Ev.convW it.uint64 it.int) ?_
  refine Seq.p rfl Ev.move ?_
  refine Seq.p rfl (Ev.mapI mp.m_int_uint64 z.uint64 hm.r) ?_
  refine Seq.p rfl Ev.move ?_
  refine Seq.p rfl (Ev.mapI mp.m_int_uint64 z.uint64 hm.r) ?_
  refine Seq.p rfl Ev.move ?_
  refine Seq.p rfl (Ev.mapI mp.m_int_uint64 z.uint64 hm.r) ?_
  refine Seq.p rfl (Ev.convW it.uint64 it.int) ?_
  refine Seq.p rfl Ev.move ?_
  refine Seq.p rfl (Ev.mapI mp.m_int_uint64 z.uint64 hm.r) ?_
  refine Seq.p rfl (Ev.convW it.uint64 it.api_Errno) ?_
  refine Seq.p rfl (Ev.buildS [_, _, _, _, _, _, _, _, _, _, _, _, _] pl.api_Event z.api_Event) ?_
  refine Seq.storeN [_, _, _, _, _, _, _, _, _, _, _, _, _] sz.api_Event (k := ?_)
  refine Seq.nil ?_
  refine JC.ret ?_
  -- return 0
  show retQ _ _ _ _ _ _ _ _
  refine retB1 ag.api_Event (hp := Part.nil _) (hpost := ?_)
  rfl
set_option maxHeartbeats 4000000 in
theorem refEventValue {w : World} {e : Event} {t : Int} : Spec Go.Proofs.Tryz.prog 84 #[.agg e.enc.toArray, .int .i64 t] w [] (fun u _ => u = .tuple #[.int .u64 (eventValueF e t).1, .bool (eventValueF e t).2]) := by
  refine Spec.enter (fn := Go.Proofs.Tryz.f84) (n := 61) [.agg e.enc.toArray, .int .i64 t] Go.Proofs.Tryz.func84 (by kernel_rfl) rfl Go.Proofs.Tryz.ntmps84 Go.Proofs.Tryz.results84 rfl (Own.nil _) ?_
  refine JC.rs ?_
  refine Seq.box (cs := [_, _, _, _, _, _, _, _, _, _, _, _, _]) (k := ?_); intro b2
  refine Seq.p rfl Ev.assign ?_
  refine Seq.p rfl Ev.assign ?_
  refine Seq.nil ?_
  refine JC.rs ?_
  refine Seq.p rfl Ev.assign ?_
  refine Seq.nil ?_
  refine JC.seq ?_
  refine JC.rs ?_
  refine Seq.p rfl Ev.move ?_
  refine Seq.nil ?_
  refine JC.blk ?_
  refine JC.rs ?_
  refine Seq.p rfl Ev.eq ?_
  refine Seq.p rfl Ev.assign ?_
  refine Seq.nil ?_
  first | refine JC.c (ht := fun c8 => ?_) (hf := fun c8 => ?_) | refine JC.cb (ht := fun c8 => ?_) (hf := fun c8 => ?_)
  · -- then_t8
    refine JC.rs ?_
    refine Seq.p rfl (Ev.faB fd.api_Event_0) ?_
    refine Seq.p rfl (Ev.ldB sc.uint64) ?_
    refine Seq.p rfl Ev.assign ?_
    refine Seq.p rfl Ev.assign ?_
    refine Seq.nil ?_
    refine JC.ret ?_
    -- return 0
    show retQ _ _ _ _ _ _ _ _
    refine ret2 (hp := Part.nil _) (hpost := ?_)
    simp [eventValueF, *]
  · -- else_t8
    refine JC.rs ?_
    refine Seq.p rfl Ev.eq ?_
    refine Seq.p rfl Ev.assign ?_
    refine Seq.nil ?_
    first | refine JC.c (ht := fun c12 => ?_) (hf := fun c12 => ?_) | refine JC.cb (ht := fun c12 => ?_) (hf := fun c12 => ?_)
    · -- then_t12
      refine JC.rs ?_
      refine Seq.p rfl (Ev.faB fd.api_Event_2) ?_
      refine Seq.p rfl (Ev.ldB sc.uint64) ?_
      refine Seq.p rfl Ev.assign ?_
      refine Seq.p rfl Ev.assign ?_
      refine Seq.nil ?_
      refine JC.ret ?_
      -- return 1
      show retQ _ _ _ _ _ _ _ _
      refine ret2 (hp := Part.nil _) (hpost := ?_)
      simp [eventValueF, *]
    · -- else_t12
      refine JC.rs ?_
      refine Seq.p rfl Ev.eq ?_
      refine Seq.p rfl Ev.assign ?_
      refine Seq.nil ?_
      first | refine JC.c (ht := fun c16 => ?_) (hf := fun c16 => ?_) | refine JC.cb (ht := fun c16 => ?_) (hf := fun c16 => ?_)
      · -- then_t16
        refine JC.rs ?_
        refine Seq.p rfl (Ev.faB fd.api_Event_4) ?_
        refine Seq.p rfl (Ev.ldB sc.uint64) ?_
        refine Seq.p rfl Ev.assign ?_
        refine Seq.p rfl Ev.assign ?_
        refine Seq.nil ?_
        refine JC.ret ?_
        -- return 2
        show retQ _ _ _ _ _ _ _ _
        refine ret2 (hp := Part.nil _) (hpost := ?_)
        simp [eventValueF, *]
      · -- else_t16
        refine JC.rs ?_
        refine Seq.p rfl Ev.eq ?_
        refine Seq.p rfl Ev.assign ?_
        refine Seq.nil ?_
        first | refine JC.c (ht := fun c20 => ?_) (hf := fun c20 => ?_) | refine JC.cb (ht := fun c20 => ?_) (hf := fun c20 => ?_)
        · -- then_t20
          refine JC.rs ?_
          refine Seq.p rfl (Ev.faB fd.api_Event_3) ?_
          refine Seq.p rfl (Ev.ldB sc.uint64) ?_
          refine Seq.p rfl Ev.assign ?_
          refine Seq.p rfl Ev.assign ?_
          refine Seq.nil ?_
          refine JC.ret ?_
          -- return 3
          show retQ _ _ _ _ _ _ _ _
          refine ret2 (hp := Part.nil _) (hpost := ?_)
          simp [eventValueF, *]
        · -- else_t20
          refine JC.rs ?_
          refine Seq.p rfl Ev.eq ?_
          refine Seq.p rfl Ev.assign ?_
          refine Seq.nil ?_
          first | refine JC.c (ht := fun c24 => ?_) (hf := fun c24 => ?_) | refine JC.cb (ht := fun c24 => ?_) (hf := fun c24 => ?_)
          · -- then_t24
            refine JC.rs ?_
            refine Seq.p rfl (Ev.faB fd.api_Event_5) ?_
            refine Seq.p rfl (Ev.ldB sc.uint32) ?_
            refine Seq.p rfl (Ev.convU64W it.uint32 it.uint64) ?_
            refine Seq.p rfl Ev.assign ?_
            refine Seq.p rfl Ev.assign ?_
            refine Seq.nil ?_
            refine JC.ret ?_
            -- return 4
            show retQ _ _ _ _ _ _ _ _
            refine ret2 (hp := Part.nil _) (hpost := ?_)
            simp [eventValueF, *]
          · -- else_t24
            refine JC.rs ?_
            refine Seq.p rfl Ev.eq ?_
            refine Seq.p rfl Ev.assign ?_
            refine Seq.nil ?_
            first | refine JC.c (ht := fun c29 => ?_) (hf := fun c29 => ?_) | refine JC.cb (ht := fun c29 => ?_) (hf := fun c29 => ?_)
            · -- then_t29
              refine JC.rs ?_
              refine Seq.p rfl (Ev.faB fd.api_Event_9) ?_
              refine Seq.p rfl (Ev.ldB sc.uint64) ?_
              refine Seq.p rfl Ev.assign ?_
              refine Seq.p rfl Ev.assign ?_
              refine Seq.nil ?_
              refine JC.ret ?_
              -- return 5
              show retQ _ _ _ _ _ _ _ _
              refine ret2 (hp := Part.nil _) (hpost := ?_)
              simp [eventValueF, *]
            · -- else_t29
              refine JC.rs ?_
              refine Seq.p rfl Ev.eq ?_
              refine Seq.p rfl Ev.assign ?_
              refine Seq.nil ?_
              first | refine JC.c (ht := fun c33 => ?_) (hf := fun c33 => ?_) | refine JC.cb (ht := fun c33 => ?_) (hf := fun c33 => ?_)
              · -- then_t33
                refine JC.rs ?_
                refine Seq.p rfl (Ev.faB fd.api_Event_10) ?_
                refine Seq.p rfl (Ev.ldB sc.uint64) ?_
                refine Seq.p rfl Ev.assign ?_
                refine Seq.p rfl Ev.assign ?_
                refine Seq.nil ?_
                refine JC.ret ?_
                -- return 6
                show retQ _ _ _ _ _ _ _ _
                refine ret2 (hp := Part.nil _) (hpost := ?_)
                simp [eventValueF, *]
              · -- else_t33
                refine JC.rs ?_
                refine Seq.p rfl Ev.eq ?_
                refine Seq.p rfl Ev.assign ?_
                refine Seq.nil ?_
                first | refine JC.c (ht := fun c37 => ?_) (hf := fun c37 => ?_) | refine JC.cb (ht := fun c37 => ?_) (hf := fun c37 => ?_)
                · -- then_t37
                  refine JC.reg ?_
                  refine Seq.p rfl (Ev.faB fd.api_Event_6) ?_
                  refine Seq.p rfl (Ev.ldB sc.int) ?_
                  refine Seq.p rfl Ev.assign ?_
                  refine Seq.nil ?_
                  refine JC.rs ?_
                  refine Seq.p rfl Ev.move ?_
                  refine Seq.p rfl (Ev.convU64W it.int it.uint64) ?_
                  refine Seq.p rfl Ev.move ?_
                  refine Seq.p rfl Ev.ge ?_
                  refine Seq.p rfl Ev.assign ?_
                  refine Seq.p rfl Ev.assign ?_
                  refine Seq.nil ?_
                  refine JC.ret ?_
                  -- return 7
                  show retQ _ _ _ _ _ _ _ _
                  refine ret2 (hp := Part.nil _) (hpost := ?_)
                  simp [eventValueF, *]
                · -- else_t37
                  refine JC.rs ?_
                  refine Seq.p rfl Ev.eq ?_
                  refine Seq.p rfl Ev.assign ?_
                  refine Seq.nil ?_
                  first | refine JC.c (ht := fun c41 => ?_) (hf := fun c41 => ?_) | refine JC.cb (ht := fun c41 => ?_) (hf := fun c41 => ?_)
                  · -- then_t41
                    refine JC.reg ?_
                    refine Seq.p rfl (Ev.faB fd.api_Event_7) ?_
                    refine Seq.p rfl (Ev.ldB sc.int) ?_
                    refine Seq.p rfl Ev.assign ?_
                    refine Seq.nil ?_
                    refine JC.rs ?_
                    refine Seq.p rfl Ev.move ?_
                    refine Seq.p rfl (Ev.convU64W it.int it.uint64) ?_
                    refine Seq.p rfl Ev.move ?_
                    refine Seq.p rfl Ev.ge ?_
                    refine Seq.p rfl Ev.assign ?_
                    refine Seq.p rfl Ev.assign ?_
                    refine Seq.nil ?_
                    refine JC.ret ?_
                    -- return 8
                    show retQ _ _ _ _ _ _ _ _
                    refine ret2 (hp := Part.nil _) (hpost := ?_)
                    simp [eventValueF, *]
                  · -- else_t41
                    refine JC.rs ?_
                    refine Seq.p rfl Ev.eq ?_
                    refine Seq.p rfl Ev.assign ?_
                    refine Seq.nil ?_
                    first | refine JC.c (ht := fun c45 => ?_) (hf := fun c45 => ?_) | refine JC.cb (ht := fun c45 => ?_) (hf := fun c45 => ?_)
                    · -- then_t45
                      refine JC.reg ?_
                      refine Seq.p rfl (Ev.faB fd.api_Event_8) ?_
                      refine Seq.p rfl (Ev.ldB sc.int) ?_
                      refine Seq.p rfl Ev.assign ?_
                      refine Seq.nil ?_
                      refine JC.rs ?_
                      refine Seq.p rfl Ev.move ?_
                      refine Seq.p rfl (Ev.convU64W it.int it.uint64) ?_
                      refine Seq.p rfl Ev.move ?_
                      refine Seq.p rfl Ev.ge ?_
                      refine Seq.p rfl Ev.assign ?_
                      refine Seq.p rfl Ev.assign ?_
                      refine Seq.nil ?_
                      refine JC.ret ?_
                      -- return 9
                      show retQ _ _ _ _ _ _ _ _
                      refine ret2 (hp := Part.nil _) (hpost := ?_)
                      simp [eventValueF, *]
                    · -- else_t45
                      refine JC.rs ?_
                      refine Seq.p rfl Ev.eq ?_
                      refine Seq.p rfl Ev.assign ?_
                      refine Seq.nil ?_
                      first | refine JC.c (ht := fun c49 => ?_) (hf := fun c49 => ?_) | refine JC.cb (ht := fun c49 => ?_) (hf := fun c49 => ?_)
                      · -- then_t49
                        refine JC.reg ?_
                        refine Seq.p rfl (Ev.faB fd.api_Event_11) ?_
                        refine Seq.p rfl (Ev.ldB sc.int) ?_
                        refine Seq.p rfl Ev.assign ?_
                        refine Seq.nil ?_
                        refine JC.rs ?_
                        refine Seq.p rfl Ev.move ?_
                        refine Seq.p rfl (Ev.convU64W it.int it.uint64) ?_
                        refine Seq.p rfl Ev.move ?_
                        refine Seq.p rfl Ev.ge ?_
                        refine Seq.p rfl Ev.assign ?_
                        refine Seq.p rfl Ev.assign ?_
                        refine Seq.nil ?_
                        refine JC.ret ?_
                        -- return 10
                        show retQ _ _ _ _ _ _ _ _
                        refine ret2 (hp := Part.nil _) (hpost := ?_)
                        simp [eventValueF, *]
                      · -- else_t49
                        refine JC.rs ?_
                        refine Seq.p rfl Ev.eq ?_
                        refine Seq.p rfl Ev.assign ?_
                        refine Seq.nil ?_
                        first | refine JC.c (ht := fun c53 => ?_) (hf := fun c53 => ?_) | refine JC.cb (ht := fun c53 => ?_) (hf := fun c53 => ?_)
                        · -- then_t53
                          refine JC.reg ?_
                          refine Seq.p rfl (Ev.faB fd.api_Event_12) ?_
                          refine Seq.p rfl (Ev.ldB sc.api_Errno) ?_
                          refine Seq.p rfl Ev.assign ?_
                          refine Seq.nil ?_
                          refine JC.rs ?_
                          refine Seq.p rfl Ev.move ?_
                          refine Seq.p rfl (Ev.convU64W it.int it.uint64) ?_
                          refine Seq.p rfl Ev.move ?_
                          refine Seq.p rfl Ev.ge ?_
                          refine Seq.p rfl Ev.assign ?_
                          refine Seq.p rfl Ev.assign ?_
                          refine Seq.nil ?_
                          refine JC.ret ?_
                          -- return 11
                          show retQ _ _ _ _ _ _ _ _
                          refine ret2 (hp := Part.nil _) (hpost := ?_)
                          simp [eventValueF, *]
                        · -- else_t53
                          refine JC.skip ?_
                          refine JC.rs ?_
                          refine Seq.p rfl Ev.move ?_
                          refine Seq.p rfl (Ev.convU64W it.int it.uint64) ?_
                          refine Seq.p rfl Ev.move ?_
                          refine Seq.p rfl Ev.ge ?_
                          refine Seq.p rfl Ev.assign ?_
                          refine Seq.p rfl Ev.assign ?_
                          refine Seq.nil ?_
                          refine JC.ret ?_
                          -- return 12
                          show retQ _ _ _ _ _ _ _ _
                          refine ret2 (hp := Part.nil _) (hpost := ?_)
                          simp [eventValueF, *]
set_option maxHeartbeats 4000000 in
theorem refWithEvent {w : World} {e : Event} {t n : Int} : Spec Go.Proofs.Tryz.prog 34 #[.agg e.enc.toArray, .int .i64 t, .int .u64 n] w [] (fun u _ => u = .agg (withEventF e t n).enc.toArray) := by
  refine Spec.enter (fn := Go.Proofs.Tryz.f34) (n := 63) [.agg e.enc.toArray, .int .i64 t, .int .u64 n] Go.Proofs.Tryz.func34 (by kernel_rfl) rfl Go.Proofs.Tryz.ntmps34 Go.Proofs.Tryz.results34 rfl (Own.nil _) ?_
  refine JC.rs ?_
  refine Seq.box (cs := [_, _, _, _, _, _, _, _, _, _, _, _, _]) (k := ?_); intro b3
  refine Seq.alloc (cs := [_, _, _, _, _, _, _, _, _, _, _, _, _]) (hz := z.api_Event) (k := ?_); intro b6
  refine Seq.nil ?_
  refine JC.seq ?_
  refine JC.rs ?_
  refine Seq.p rfl Ev.move ?_
  refine Seq.nil ?_
  refine JC.blk ?_
  refine JC.rs ?_
  refine Seq.p rfl Ev.eq ?_
  refine Seq.p rfl Ev.assign ?_
  refine Seq.nil ?_
  first | refine JC.c (ht := fun c8 => ?_) (hf := fun c8 => ?_) | refine JC.cb (ht := fun c8 => ?_) (hf := fun c8 => ?_)
  · -- then_t8
    refine JC.reg ?_
    refine Seq.p rfl Ev.move ?_
    refine Seq.p rfl (Ev.faB fd.api_Event_0) ?_
    refine Seq.storeN [_, _, _, _, _, _, _, _, _, _, _, _, _] sz.uint64 (k := ?_)
    refine Seq.nil ?_
    refine JC.rs ?_
    refine Seq.p rfl (Ev.ldBA ag.api_Event) ?_
    refine Seq.storeN [_, _, _, _, _, _, _, _, _, _, _, _, _] sz.api_Event (k := ?_)
    refine Seq.nil ?_
    refine JC.ret ?_
    -- return 0
    show retQ _ _ _ _ _ _ _ _
    refine retB1 ag.api_Event (hp := Part.nil _) (hpost := ?_)
    unfold withEventF
    simp only [*, if_true, if_false]
    rfl
  · -- else_t8
    refine JC.rs ?_
    refine Seq.p rfl Ev.eq ?_
    refine Seq.p rfl Ev.assign ?_
    refine Seq.nil ?_
    first | refine JC.c (ht := fun c12 => ?_) (hf := fun c12 => ?_) | refine JC.cb (ht := fun c12 => ?_) (hf := fun c12 => ?_)
    · -- then_t12
      refine JC.reg ?_
      refine Seq.p rfl Ev.move ?_
      refine Seq.p rfl (Ev.faB fd.api_Event_2) ?_
      refine Seq.storeN [_, _, _, _, _, _, _, _, _, _, _, _, _] sz.uint64 (k := ?_)
      refine Seq.nil ?_
      refine JC.rs ?_
      refine Seq.p rfl (Ev.ldBA ag.api_Event) ?_
      refine Seq.storeN [_, _, _, _, _, _, _, _, _, _, _, _, _] sz.api_Event (k := ?_)
      refine Seq.nil ?_
      refine JC.ret ?_
      -- return 1
      show retQ _ _ _ _ _ _ _ _
      refine retB1 ag.api_Event (hp := Part.nil _) (hpost := ?_)
      unfold withEventF
      simp only [*, if_true, if_false]
      rfl
    · -- else_t12
      refine JC.rs ?_
      refine Seq.p rfl Ev.eq ?_
      refine Seq.p rfl Ev.assign ?_
      refine Seq.nil ?_
      first | refine JC.c (ht := fun c16 => ?_) (hf := fun c16 => ?_) | refine JC.cb (ht := fun c16 => ?_) (hf := fun c16 => ?_)
      · -- then_t16
        refine JC.reg ?_
        refine Seq.p rfl Ev.move ?_
        refine Seq.p rfl (Ev.faB fd.api_Event_4) ?_
        refine Seq.storeN [_, _, _, _, _, _, _, _, _, _, _, _, _] sz.uint64 (k := ?_)
        refine Seq.nil ?_
        refine JC.rs ?_
        refine Seq.p rfl (Ev.ldBA ag.api_Event) ?_
        refine Seq.storeN [_, _, _, _, _, _, _, _, _, _, _, _, _] sz.api_Event (k := ?_)
        refine Seq.nil ?_
        refine JC.ret ?_
        -- return 2
        show retQ _ _ _ _ _ _ _ _
        refine retB1 ag.api_Event (hp := Part.nil _) (hpost := ?_)
        unfold withEventF
        simp only [*, if_true, if_false]
        rfl
      · -- else_t16
        refine JC.rs ?_
        refine Seq.p rfl Ev.eq ?_
        refine Seq.p rfl Ev.assign ?_
        refine Seq.nil ?_
        first | refine JC.c (ht := fun c20 => ?_) (hf := fun c20 => ?_) | refine JC.cb (ht := fun c20 => ?_) (hf := fun c20 => ?_)
        · -- then_t20
          refine JC.reg ?_
          refine Seq.p rfl Ev.move ?_
          refine Seq.p rfl (Ev.faB fd.api_Event_3) ?_
          refine Seq.storeN [_, _, _, _, _, _, _, _, _, _, _, _, _] sz.uint64 (k := ?_)
          refine Seq.nil ?_
          refine JC.rs ?_
          refine Seq.p rfl (Ev.ldBA ag.api_Event) ?_
          refine Seq.storeN [_, _, _, _, _, _, _, _, _, _, _, _, _] sz.api_Event (k := ?_)
          refine Seq.nil ?_
          refine JC.ret ?_
          -- return 3
          show retQ _ _ _ _ _ _ _ _
          refine retB1 ag.api_Event (hp := Part.nil _) (hpost := ?_)
          unfold withEventF
          simp only [*, if_true, if_false]
          rfl
        · -- else_t20
          refine JC.rs ?_
          refine Seq.p rfl Ev.eq ?_
          refine Seq.p rfl Ev.assign ?_
          refine Seq.nil ?_
          first | refine JC.c (ht := fun c24 => ?_) (hf := fun c24 => ?_) | refine JC.cb (ht := fun c24 => ?_) (hf := fun c24 => ?_)
          · -- then_t24
            refine JC.reg ?_
            refine Seq.p rfl Ev.move ?_
            refine Seq.p rfl (Ev.convU32W it.uint64 it.uint32) ?_
            refine Seq.p rfl (Ev.faB fd.api_Event_5) ?_
            refine Seq.storeN [_, _, _, _, _, _, _, _, _, _, _, _, _] sz.uint32 (k := ?_)
            refine Seq.nil ?_
            refine JC.rs ?_
            refine Seq.p rfl (Ev.ldBA ag.api_Event) ?_
            refine Seq.storeN [_, _, _, _, _, _, _, _, _, _, _, _, _] sz.api_Event (k := ?_)
            refine Seq.nil ?_
            refine JC.ret ?_
            -- return 4
            show retQ _ _ _ _ _ _ _ _
            refine retB1 ag.api_Event (hp := Part.nil _) (hpost := ?_)
            unfold withEventF
            simp only [*, if_true, if_false]
            rfl
          · -- else_t24
            refine JC.rs ?_
            refine Seq.p rfl Ev.eq ?_
            refine Seq.p rfl Ev.assign ?_
            refine Seq.nil ?_
            first | refine JC.c (ht := fun c29 => ?_) (hf := fun c29 => ?_) | refine JC.cb (ht := fun c29 => ?_) (hf := fun c29 => ?_)
            · -- then_t29
              refine JC.reg ?_
              refine Seq.p rfl Ev.move ?_
              refine Seq.p rfl (Ev.faB fd.api_Event_9) ?_
              refine Seq.storeN [_, _, _, _, _, _, _, _, _, _, _, _, _] sz.uint64 (k := ?_)
              refine Seq.nil ?_
              refine JC.rs ?_
              refine Seq.p rfl (Ev.ldBA ag.api_Event) ?_
              refine Seq.storeN [_, _, _, _, _, _, _, _, _, _, _, _, _] sz.api_Event (k := ?_)
              refine Seq.nil ?_
              refine JC.ret ?_
              -- return 5
              show retQ _ _ _ _ _ _ _ _
              refine retB1 ag.api_Event (hp := Part.nil _) (hpost := ?_)
              unfold withEventF
              simp only [*, if_true, if_false]
              rfl
            · -- else_t29
              refine JC.rs ?_
              refine Seq.p rfl Ev.eq ?_
              refine Seq.p rfl Ev.assign ?_
              refine Seq.nil ?_
              first | refine JC.c (ht := fun c33 => ?_) (hf := fun c33 => ?_) | refine JC.cb (ht := fun c33 => ?_) (hf := fun c33 => ?_)
              · -- then_t33
                refine JC.reg ?_
                refine Seq.p rfl Ev.move ?_
                refine Seq.p rfl (Ev.faB fd.api_Event_10) ?_
                refine Seq.storeN [_, _, _, _, _, _, _, _, _, _, _, _, _] sz.uint64 (k := ?_)
                refine Seq.nil ?_
                refine JC.rs ?_
                refine Seq.p rfl (Ev.ldBA ag.api_Event) ?_
                refine Seq.storeN [_, _, _, _, _, _, _, _, _, _, _, _, _] sz.api_Event (k := ?_)
                refine Seq.nil ?_
                refine JC.ret ?_
                -- return 6
                show retQ _ _ _ _ _ _ _ _
                refine retB1 ag.api_Event (hp := Part.nil _) (hpost := ?_)
                unfold withEventF
                simp only [*, if_true, if_false]
                rfl
              · -- else_t33
                refine JC.rs ?_
                refine Seq.p rfl Ev.eq ?_
                refine Seq.p rfl Ev.assign ?_
                refine Seq.nil ?_
                first | refine JC.c (ht := fun c37 => ?_) (hf := fun c37 => ?_) | refine JC.cb (ht := fun c37 => ?_) (hf := fun c37 => ?_)
                · -- then_t37
                  refine JC.reg ?_
                  refine Seq.p rfl Ev.move ?_
                  refine Seq.p rfl (Ev.convW it.uint64 it.int) ?_
                  refine Seq.p rfl (Ev.faB fd.api_Event_6) ?_
                  refine Seq.storeN [_, _, _, _, _, _, _, _, _, _, _, _, _] sz.int (k := ?_)
                  refine Seq.nil ?_
                  refine JC.rs ?_
                  refine Seq.p rfl (Ev.ldBA ag.api_Event) ?_
                  refine Seq.storeN [_, _, _, _, _, _, _, _, _, _, _, _, _] sz.api_Event (k := ?_)
                  refine Seq.nil ?_
                  refine JC.ret ?_
                  -- return 7
                  show retQ _ _ _ _ _ _ _ _
                  refine retB1 ag.api_Event (hp := Part.nil _) (hpost := ?_)
                  unfold withEventF
                  simp only [*, if_true, if_false]
                  rfl
                · -- else_t37
                  refine JC.rs ?_
                  refine Seq.p rfl Ev.eq ?_
                  refine Seq.p rfl Ev.assign ?_
                  refine Seq.nil ?_
                  first | refine JC.c (ht := fun c42 => ?_) (hf := fun c42 => ?_) | refine JC.cb (ht := fun c42 => ?_) (hf := fun c42 => ?_)
                  · -- then_t42
                    refine JC.reg ?_
                    refine Seq.p rfl Ev.move ?_
                    refine Seq.p rfl (Ev.convW it.uint64 it.int) ?_
                    refine Seq.p rfl (Ev.faB fd.api_Event_7) ?_
                    refine Seq.storeN [_, _, _, _, _, _, _, _, _, _, _, _, _] sz.int (k := ?_)
                    refine Seq.nil ?_
                    refine JC.rs ?_
                    refine Seq.p rfl (Ev.ldBA ag.api_Event) ?_
                    refine Seq.storeN [_, _, _, _, _, _, _, _, _, _, _, _, _] sz.api_Event (k := ?_)
                    refine Seq.nil ?_
                    refine JC.ret ?_
                    -- return 8
                    show retQ _ _ _ _ _ _ _ _
                    refine retB1 ag.api_Event (hp := Part.nil _) (hpost := ?_)
                    unfold withEventF
                    simp only [*, if_true, if_false]
                    rfl
                  · -- else_t42
                    refine JC.rs ?_
                    refine Seq.p rfl Ev.eq ?_
                    refine Seq.p rfl Ev.assign ?_
                    refine Seq.nil ?_
                    first | refine JC.c (ht := fun c47 => ?_) (hf := fun c47 => ?_) | refine JC.cb (ht := fun c47 => ?_) (hf := fun c47 => ?_)
                    · -- then_t47
                      refine JC.reg ?_
                      refine Seq.p rfl Ev.move ?_
                      refine Seq.p rfl (Ev.convW it.uint64 it.int) ?_
                      refine Seq.p rfl (Ev.faB fd.api_Event_8) ?_
                      refine Seq.storeN [_, _, _, _, _, _, _, _, _, _, _, _, _] sz.int (k := ?_)
                      refine Seq.nil ?_
                      refine JC.rs ?_
                      refine Seq.p rfl (Ev.ldBA ag.api_Event) ?_
                      refine Seq.storeN [_, _, _, _, _, _, _, _, _, _, _, _, _] sz.api_Event (k := ?_)
                      refine Seq.nil ?_
                      refine JC.ret ?_
                      -- return 9
                      show retQ _ _ _ _ _ _ _ _
                      refine retB1 ag.api_Event (hp := Part.nil _) (hpost := ?_)
                      unfold withEventF
                      simp only [*, if_true, if_false]
                      rfl
                    · -- else_t47
                      refine JC.rs ?_
                      refine Seq.p rfl Ev.eq ?_
                      refine Seq.p rfl Ev.assign ?_
                      refine Seq.nil ?_
                      first | refine JC.c (ht := fun c52 => ?_) (hf := fun c52 => ?_) | refine JC.cb (ht := fun c52 => ?_) (hf := fun c52 => ?_)
                      · -- then_t52
                        refine JC.reg ?_
                        refine Seq.p rfl Ev.move ?_
                        refine Seq.p rfl (Ev.convW it.uint64 it.int) ?_
                        refine Seq.p rfl (Ev.faB fd.api_Event_11) ?_
                        refine Seq.storeN [_, _, _, _, _, _, _, _, _, _, _, _, _] sz.int (k := ?_)
                        refine Seq.nil ?_
                        refine JC.rs ?_
                        refine Seq.p rfl (Ev.ldBA ag.api_Event) ?_
                        refine Seq.storeN [_, _, _, _, _, _, _, _, _, _, _, _, _] sz.api_Event (k := ?_)
                        refine Seq.nil ?_
                        refine JC.ret ?_
                        -- return 10
                        show retQ _ _ _ _ _ _ _ _
                        refine retB1 ag.api_Event (hp := Part.nil _) (hpost := ?_)
                        unfold withEventF
                        simp only [*, if_true, if_false]
                        rfl
                      · -- else_t52
                        refine JC.rs ?_
                        refine Seq.p rfl Ev.eq ?_
                        refine Seq.p rfl Ev.assign ?_
                        refine Seq.nil ?_
                        first | refine JC.c (ht := fun c57 => ?_) (hf := fun c57 => ?_) | refine JC.cb (ht := fun c57 => ?_) (hf := fun c57 => ?_)
                        · -- then_t57
                          refine JC.reg ?_
                          refine Seq.p rfl Ev.move ?_
                          refine Seq.p rfl (Ev.convW it.uint64 it.api_Errno) ?_
                          refine Seq.p rfl (Ev.faB fd.api_Event_12) ?_
                          refine Seq.storeN [_, _, _, _, _, _, _, _, _, _, _, _, _] sz.api_Errno (k := ?_)
                          refine Seq.nil ?_
                          refine JC.rs ?_
                          refine Seq.p rfl (Ev.ldBA ag.api_Event) ?_
                          refine Seq.storeN [_, _, _, _, _, _, _, _, _, _, _, _, _] sz.api_Event (k := ?_)
                          refine Seq.nil ?_
                          refine JC.ret ?_
                          -- return 11
                          show retQ _ _ _ _ _ _ _ _
                          refine retB1 ag.api_Event (hp := Part.nil _) (hpost := ?_)
                          unfold withEventF
                          simp only [*, if_true, if_false]
                          rfl
                        · -- else_t57
                          refine JC.skip ?_
                          refine JC.rs ?_
                          refine Seq.p rfl (Ev.ldBA ag.api_Event) ?_
                          refine Seq.storeN [_, _, _, _, _, _, _, _, _, _, _, _, _] sz.api_Event (k := ?_)
                          refine Seq.nil ?_
                          refine JC.ret ?_
                          -- return 12
                          show retQ _ _ _ _ _ _ _ _
                          refine retB1 ag.api_Event (hp := Part.nil _) (hpost := ?_)
                          unfold withEventF
                          simp only [*, if_true, if_false]
                          rfl
end Go.Rx
namespace Go.Rx
open Go Go.RowKit
set_option linter.unusedVariables false
set_option linter.unusedSimpArgs false
def evFields1 (e : Event) : List Fld := [wholeF 34 e.seq, wholeF 11 e.id, wholeF 1 (e.member % 18446744073709551616), upToF 54 e.side 255, upToF 40 e.type 255, upToF 44 e.price 4294967295, wholeF 38 e.qty, wholeF 210 e.peak]
def evFields2 (e : Event) : List Fld := [wholeF 34 e.seq, wholeF 11 e.id, wholeF 41 e.target, upToF 103 e.code 4294967295]
def evFields3 (e : Event) : List Fld := [wholeF 34 e.seq, wholeF 11 e.id, wholeF 37 e.other, upToF 54 e.side 255, upToF 44 e.price 4294967295, wholeF 38 e.qty]
def evFields4 (e : Event) : List Fld := [wholeF 34 e.seq, wholeF 11 e.id, wholeF 38 e.qty, upToF 378 e.reason 255]
def evFields5 (e : Event) : List Fld := [wholeF 34 e.seq, wholeF 11 e.id, upToF 44 e.price 4294967295, wholeF 38 e.qty]
def evFieldsF (e : Event) : Option (List Fld) :=
  if e.kind = 1 then some (evFields1 e) else if e.kind = 2 then some (evFields2 e) else if e.kind = 3 then some (evFields3 e) else if e.kind = 4 then some (evFields4 e) else if e.kind = 5 then some (evFields5 e) else none
def EvPost (o : Option (List Fld)) (u : Value) (N : List Chunk) : Prop :=
  match o with
  | none => u = .tuple #[.slice none 0 0, .bool false]
  | some fs => ∃ A c, u = .tuple #[.slice A fs.length c, .bool true] ∧ N = [.own 119 3 (.slice A fs.length c) fs.length (fs.flatMap Fld.enc)]
set_option maxHeartbeats 4000000 in
set_option maxRecDepth 100000 in
theorem msgEventFields {w : World} {e : Event} : Spec Go.Proofs.Tryz.prog 43 #[.agg e.enc.toArray] w [] (EvPost (evFieldsF e)) := by
  refine Spec.enter (fn := Go.Proofs.Tryz.f43) (n := 100) [.agg e.enc.toArray] Go.Proofs.Tryz.func43 (by kernel_rfl) rfl Go.Proofs.Tryz.ntmps43 Go.Proofs.Tryz.results43 rfl (Own.nil _) ?_
  refine JC.rs ?_
  refine Seq.box (cs := [_, _, _, _, _, _, _, _, _, _, _, _, _]) (k := ?_); intro b1
  refine Seq.p rfl Ev.assign ?_
  refine Seq.p rfl Ev.assign ?_
  refine Seq.nil ?_
  refine JC.rs ?_
  refine Seq.p rfl (Ev.faB fd.api_Event_0) ?_
  refine Seq.p rfl (Ev.ldB sc.uint64) ?_
  refine Seq.callP rfl (fun w hw => msgWhole) ?_
  refine Seq.buildSlN [_, _, _] (hsl := sl.sl_message_field) (hz := z.message_field) (k := ?_); intro b8
  refine Seq.re (fun w h => Upd.boxOwn h (n := 1) (size := 3) At.z rfl (by omega)) ?_
  refine Seq.p rfl Ev.assign ?_
  refine Seq.nil ?_
  refine JC.seq ?_
  refine JC.rs ?_
  refine Seq.p rfl (Ev.faB fd.api_Event_1) ?_
  refine Seq.p rfl (Ev.ldB sc.int) ?_
  refine Seq.nil ?_
  refine JC.blk ?_
  refine JC.rs ?_
  refine Seq.p rfl Ev.eq ?_
  refine Seq.p rfl Ev.assign ?_
  refine Seq.nil ?_
  first | refine JC.c (ht := fun c11 => ?_) (hf := fun c11 => ?_) | refine JC.cb (ht := fun c11 => ?_) (hf := fun c11 => ?_)
  · -- then_t11
    refine JC.asE 0 mixed ?_
    refine Any.p 0 rfl (by kernel_rfl) (by kernel_rfl) (by kernel_rfl) rfl Ev.move ?_
    refine Any.p 1 rfl (by kernel_rfl) (by kernel_rfl) (by kernel_rfl) rfl (Ev.faB fd.api_Event_2) ?_
    refine Any.p 2 rfl (by kernel_rfl) (by kernel_rfl) (by kernel_rfl) rfl (Ev.ldB sc.uint64) ?_
    refine Any.call 3 rfl (by kernel_rfl) (by kernel_rfl) (by kernel_rfl) rfl (fun w hw => msgWhole) ?_
    refine Any.p 4 rfl (by kernel_rfl) (by kernel_rfl) (by kernel_rfl) rfl (Ev.faB fd.api_Event_5) ?_
    refine Any.p 5 rfl (by kernel_rfl) (by kernel_rfl) (by kernel_rfl) rfl (Ev.ldB sc.uint32) ?_
    refine Any.p 6 rfl (by kernel_rfl) (by kernel_rfl) (by kernel_rfl) rfl (Ev.convU64W it.uint32 it.uint64) ?_
    refine Any.call 7 rfl (by kernel_rfl) (by kernel_rfl) (by kernel_rfl) rfl (fun w hw => msgWhole) ?_
    refine Any.p 8 rfl (by kernel_rfl) (by kernel_rfl) (by kernel_rfl) rfl (Ev.faB fd.api_Event_6) ?_
    refine Any.p 9 rfl (by kernel_rfl) (by kernel_rfl) (by kernel_rfl) rfl (Ev.ldB sc.int) ?_
    refine Any.call 10 rfl (by kernel_rfl) (by kernel_rfl) (by kernel_rfl) rfl (fun w hw => msgUpTo) ?_
    refine Any.p 11 rfl (by kernel_rfl) (by kernel_rfl) (by kernel_rfl) rfl (Ev.faB fd.api_Event_7) ?_
    refine Any.p 12 rfl (by kernel_rfl) (by kernel_rfl) (by kernel_rfl) rfl (Ev.ldB sc.int) ?_
    refine Any.call 13 rfl (by kernel_rfl) (by kernel_rfl) (by kernel_rfl) rfl (fun w hw => msgUpTo) ?_
    refine Any.p 14 rfl (by kernel_rfl) (by kernel_rfl) (by kernel_rfl) rfl (Ev.faB fd.api_Event_8) ?_
    refine Any.p 15 rfl (by kernel_rfl) (by kernel_rfl) (by kernel_rfl) rfl (Ev.ldB sc.int) ?_
    refine Any.call 16 rfl (by kernel_rfl) (by kernel_rfl) (by kernel_rfl) rfl (fun w hw => msgUpTo) ?_
    refine Any.p 17 rfl (by kernel_rfl) (by kernel_rfl) (by kernel_rfl) rfl (Ev.faB fd.api_Event_9) ?_
    refine Any.p 18 rfl (by kernel_rfl) (by kernel_rfl) (by kernel_rfl) rfl (Ev.ldB sc.uint64) ?_
    refine Any.call 19 rfl (by kernel_rfl) (by kernel_rfl) (by kernel_rfl) rfl (fun w hw => msgWhole) ?_
    refine Any.p 20 rfl (by kernel_rfl) (by kernel_rfl) (by kernel_rfl) rfl (Ev.faB fd.api_Event_10) ?_
    refine Any.p 21 rfl (by kernel_rfl) (by kernel_rfl) (by kernel_rfl) rfl (Ev.ldB sc.uint64) ?_
    refine Any.call 22 rfl (by kernel_rfl) (by kernel_rfl) (by kernel_rfl) rfl (fun w hw => msgWhole) ?_
    refine Any.one 23 rfl (by kernel_rfl) ?_
    refine Seq.buildSlS [_, _, _, _, _, _, _, _, _, _, _, _, _, _, _, _, _, _, _, _, _] (hsl := sl.sl_message_field) (hz := z.message_field) (k := ?_); intro b36
    refine Seq.nil ⟨(by repeat (first | exact Part.refl _ | exact Part.nil _ | apply Part.here | apply Part.skip)), ?_⟩
    refine Any.one 24 rfl (by kernel_rfl) ?_
    refine Seq.append (hsl := sl.sl_message_field) (he := el.message_field) (hsrc := (fun w' hw => Src.box (hl := by rfl) (hc := fun q u hu => hu) sl.sl_message_field At.z hw)) (k := ?_); intro A37 c37
    refine Seq.nil ⟨(by repeat (first | exact Part.refl _ | exact Part.nil _ | apply Part.here | apply Part.skip)), ?_⟩
    refine Any.p 25 rfl (by kernel_rfl) (by kernel_rfl) (by kernel_rfl) rfl Ev.assign ?_
    refine Any.p 26 rfl (by kernel_rfl) (by kernel_rfl) (by kernel_rfl) rfl Ev.assign ?_
    refine Any.done (by kernel_rfl) ?_
    refine JC.ret ?_
    -- return 0
    show retQ _ _ _ _ _ _ _ _
    refine ret2 (hp := Part.skip (Part.here (Part.nil _))) (hpost := ?_)
    have hF : evFieldsF e = some (evFields1 e) := by rw [evFieldsF, if_pos c11]
    rw [hF]
    exact ⟨_, _, rfl, rfl⟩
  · -- else_t11
    refine JC.rs ?_
    refine Seq.p rfl Ev.eq ?_
    refine Seq.p rfl Ev.assign ?_
    refine Seq.nil ?_
    first | refine JC.c (ht := fun c38 => ?_) (hf := fun c38 => ?_) | refine JC.cb (ht := fun c38 => ?_) (hf := fun c38 => ?_)
    · -- then_t38
      refine JC.asE 0 mixed ?_
      refine Any.p 0 rfl (by kernel_rfl) (by kernel_rfl) (by kernel_rfl) rfl Ev.move ?_
      refine Any.p 1 rfl (by kernel_rfl) (by kernel_rfl) (by kernel_rfl) rfl (Ev.faB fd.api_Event_2) ?_
      refine Any.p 2 rfl (by kernel_rfl) (by kernel_rfl) (by kernel_rfl) rfl (Ev.ldB sc.uint64) ?_
      refine Any.call 3 rfl (by kernel_rfl) (by kernel_rfl) (by kernel_rfl) rfl (fun w hw => msgWhole) ?_
      refine Any.p 4 rfl (by kernel_rfl) (by kernel_rfl) (by kernel_rfl) rfl (Ev.faB fd.api_Event_4) ?_
      refine Any.p 5 rfl (by kernel_rfl) (by kernel_rfl) (by kernel_rfl) rfl (Ev.ldB sc.uint64) ?_
      refine Any.call 6 rfl (by kernel_rfl) (by kernel_rfl) (by kernel_rfl) rfl (fun w hw => msgWhole) ?_
      refine Any.p 7 rfl (by kernel_rfl) (by kernel_rfl) (by kernel_rfl) rfl (Ev.faB fd.api_Event_12) ?_
      refine Any.p 8 rfl (by kernel_rfl) (by kernel_rfl) (by kernel_rfl) rfl (Ev.ldB sc.api_Errno) ?_
      refine Any.call 9 rfl (by kernel_rfl) (by kernel_rfl) (by kernel_rfl) rfl (fun w hw => msgUpTo) ?_
      refine Any.one 10 rfl (by kernel_rfl) ?_
      refine Seq.buildSlN [_, _, _, _, _, _, _, _, _] (hsl := sl.sl_message_field) (hz := z.message_field) (k := ?_); intro b50
      refine Seq.nil ⟨(by repeat (first | exact Part.refl _ | exact Part.nil _ | apply Part.here | apply Part.skip)), ?_⟩
      refine Any.one 11 rfl (by kernel_rfl) ?_
      refine Seq.append (hsl := sl.sl_message_field) (he := el.message_field) (hsrc := (fun w' hw => Src.box (hl := by rfl) (hc := fun q u hu => hu) sl.sl_message_field At.z hw)) (k := ?_); intro A51 c51
      refine Seq.nil ⟨(by repeat (first | exact Part.refl _ | exact Part.nil _ | apply Part.here | apply Part.skip)), ?_⟩
      refine Any.p 12 rfl (by kernel_rfl) (by kernel_rfl) (by kernel_rfl) rfl Ev.assign ?_
      refine Any.p 13 rfl (by kernel_rfl) (by kernel_rfl) (by kernel_rfl) rfl Ev.assign ?_
      refine Any.done (by kernel_rfl) ?_
      refine JC.ret ?_
      -- return 1
      show retQ _ _ _ _ _ _ _ _
      refine ret2 (hp := Part.skip (Part.here (Part.nil _))) (hpost := ?_)
      have hF : evFieldsF e = some (evFields2 e) := by rw [evFieldsF, if_neg c11, if_pos c38]
      rw [hF]
      exact ⟨_, _, rfl, rfl⟩
    · -- else_t38
      refine JC.rs ?_
      refine Seq.p rfl Ev.eq ?_
      refine Seq.p rfl Ev.assign ?_
      refine Seq.nil ?_
      first | refine JC.c (ht := fun c52 => ?_) (hf := fun c52 => ?_) | refine JC.cb (ht := fun c52 => ?_) (hf := fun c52 => ?_)
      · -- then_t52
        refine JC.asE 0 mixed ?_
        refine Any.p 0 rfl (by kernel_rfl) (by kernel_rfl) (by kernel_rfl) rfl Ev.move ?_
        refine Any.p 1 rfl (by kernel_rfl) (by kernel_rfl) (by kernel_rfl) rfl (Ev.faB fd.api_Event_2) ?_
        refine Any.p 2 rfl (by kernel_rfl) (by kernel_rfl) (by kernel_rfl) rfl (Ev.ldB sc.uint64) ?_
        refine Any.call 3 rfl (by kernel_rfl) (by kernel_rfl) (by kernel_rfl) rfl (fun w hw => msgWhole) ?_
        refine Any.p 4 rfl (by kernel_rfl) (by kernel_rfl) (by kernel_rfl) rfl (Ev.faB fd.api_Event_3) ?_
        refine Any.p 5 rfl (by kernel_rfl) (by kernel_rfl) (by kernel_rfl) rfl (Ev.ldB sc.uint64) ?_
        refine Any.call 6 rfl (by kernel_rfl) (by kernel_rfl) (by kernel_rfl) rfl (fun w hw => msgWhole) ?_
        refine Any.p 7 rfl (by kernel_rfl) (by kernel_rfl) (by kernel_rfl) rfl (Ev.faB fd.api_Event_6) ?_
        refine Any.p 8 rfl (by kernel_rfl) (by kernel_rfl) (by kernel_rfl) rfl (Ev.ldB sc.int) ?_
        refine Any.call 9 rfl (by kernel_rfl) (by kernel_rfl) (by kernel_rfl) rfl (fun w hw => msgUpTo) ?_
        refine Any.p 10 rfl (by kernel_rfl) (by kernel_rfl) (by kernel_rfl) rfl (Ev.faB fd.api_Event_8) ?_
        refine Any.p 11 rfl (by kernel_rfl) (by kernel_rfl) (by kernel_rfl) rfl (Ev.ldB sc.int) ?_
        refine Any.call 12 rfl (by kernel_rfl) (by kernel_rfl) (by kernel_rfl) rfl (fun w hw => msgUpTo) ?_
        refine Any.p 13 rfl (by kernel_rfl) (by kernel_rfl) (by kernel_rfl) rfl (Ev.faB fd.api_Event_9) ?_
        refine Any.p 14 rfl (by kernel_rfl) (by kernel_rfl) (by kernel_rfl) rfl (Ev.ldB sc.uint64) ?_
        refine Any.call 15 rfl (by kernel_rfl) (by kernel_rfl) (by kernel_rfl) rfl (fun w hw => msgWhole) ?_
        refine Any.one 16 rfl (by kernel_rfl) ?_
        refine Seq.buildSlS [_, _, _, _, _, _, _, _, _, _, _, _, _, _, _] (hsl := sl.sl_message_field) (hz := z.message_field) (k := ?_); intro b70
        refine Seq.nil ⟨(by repeat (first | exact Part.refl _ | exact Part.nil _ | apply Part.here | apply Part.skip)), ?_⟩
        refine Any.one 17 rfl (by kernel_rfl) ?_
        refine Seq.append (hsl := sl.sl_message_field) (he := el.message_field) (hsrc := (fun w' hw => Src.box (hl := by rfl) (hc := fun q u hu => hu) sl.sl_message_field At.z hw)) (k := ?_); intro A71 c71
        refine Seq.nil ⟨(by repeat (first | exact Part.refl _ | exact Part.nil _ | apply Part.here | apply Part.skip)), ?_⟩
        refine Any.p 18 rfl (by kernel_rfl) (by kernel_rfl) (by kernel_rfl) rfl Ev.assign ?_
        refine Any.p 19 rfl (by kernel_rfl) (by kernel_rfl) (by kernel_rfl) rfl Ev.assign ?_
        refine Any.done (by kernel_rfl) ?_
        refine JC.ret ?_
        -- return 2
        show retQ _ _ _ _ _ _ _ _
        refine ret2 (hp := Part.skip (Part.here (Part.nil _))) (hpost := ?_)
        have hF : evFieldsF e = some (evFields3 e) := by rw [evFieldsF, if_neg c11, if_neg c38, if_pos c52]
        rw [hF]
        exact ⟨_, _, rfl, rfl⟩
      · -- else_t52
        refine JC.rs ?_
        refine Seq.p rfl Ev.eq ?_
        refine Seq.p rfl Ev.assign ?_
        refine Seq.nil ?_
        first | refine JC.c (ht := fun c72 => ?_) (hf := fun c72 => ?_) | refine JC.cb (ht := fun c72 => ?_) (hf := fun c72 => ?_)
        · -- then_t72
          refine JC.asE 0 mixed ?_
          refine Any.p 0 rfl (by kernel_rfl) (by kernel_rfl) (by kernel_rfl) rfl Ev.move ?_
          refine Any.p 1 rfl (by kernel_rfl) (by kernel_rfl) (by kernel_rfl) rfl (Ev.faB fd.api_Event_2) ?_
          refine Any.p 2 rfl (by kernel_rfl) (by kernel_rfl) (by kernel_rfl) rfl (Ev.ldB sc.uint64) ?_
          refine Any.call 3 rfl (by kernel_rfl) (by kernel_rfl) (by kernel_rfl) rfl (fun w hw => msgWhole) ?_
          refine Any.p 4 rfl (by kernel_rfl) (by kernel_rfl) (by kernel_rfl) rfl (Ev.faB fd.api_Event_9) ?_
          refine Any.p 5 rfl (by kernel_rfl) (by kernel_rfl) (by kernel_rfl) rfl (Ev.ldB sc.uint64) ?_
          refine Any.call 6 rfl (by kernel_rfl) (by kernel_rfl) (by kernel_rfl) rfl (fun w hw => msgWhole) ?_
          refine Any.p 7 rfl (by kernel_rfl) (by kernel_rfl) (by kernel_rfl) rfl (Ev.faB fd.api_Event_11) ?_
          refine Any.p 8 rfl (by kernel_rfl) (by kernel_rfl) (by kernel_rfl) rfl (Ev.ldB sc.int) ?_
          refine Any.call 9 rfl (by kernel_rfl) (by kernel_rfl) (by kernel_rfl) rfl (fun w hw => msgUpTo) ?_
          refine Any.one 10 rfl (by kernel_rfl) ?_
          refine Seq.buildSlN [_, _, _, _, _, _, _, _, _] (hsl := sl.sl_message_field) (hz := z.message_field) (k := ?_); intro b84
          refine Seq.nil ⟨(by repeat (first | exact Part.refl _ | exact Part.nil _ | apply Part.here | apply Part.skip)), ?_⟩
          refine Any.one 11 rfl (by kernel_rfl) ?_
          refine Seq.append (hsl := sl.sl_message_field) (he := el.message_field) (hsrc := (fun w' hw => Src.box (hl := by rfl) (hc := fun q u hu => hu) sl.sl_message_field At.z hw)) (k := ?_); intro A85 c85
          refine Seq.nil ⟨(by repeat (first | exact Part.refl _ | exact Part.nil _ | apply Part.here | apply Part.skip)), ?_⟩
          refine Any.p 12 rfl (by kernel_rfl) (by kernel_rfl) (by kernel_rfl) rfl Ev.assign ?_
          refine Any.p 13 rfl (by kernel_rfl) (by kernel_rfl) (by kernel_rfl) rfl Ev.assign ?_
          refine Any.done (by kernel_rfl) ?_
          refine JC.ret ?_
          -- return 3
          show retQ _ _ _ _ _ _ _ _
          refine ret2 (hp := Part.skip (Part.here (Part.nil _))) (hpost := ?_)
          have hF : evFieldsF e = some (evFields4 e) := by rw [evFieldsF, if_neg c11, if_neg c38, if_neg c52, if_pos c72]
          rw [hF]
          exact ⟨_, _, rfl, rfl⟩
        · -- else_t72
          refine JC.rs ?_
          refine Seq.p rfl Ev.eq ?_
          refine Seq.p rfl Ev.assign ?_
          refine Seq.nil ?_
          first | refine JC.c (ht := fun c86 => ?_) (hf := fun c86 => ?_) | refine JC.cb (ht := fun c86 => ?_) (hf := fun c86 => ?_)
          · -- then_t86
            refine JC.asE 0 mixed ?_
            refine Any.p 0 rfl (by kernel_rfl) (by kernel_rfl) (by kernel_rfl) rfl Ev.move ?_
            refine Any.p 1 rfl (by kernel_rfl) (by kernel_rfl) (by kernel_rfl) rfl (Ev.faB fd.api_Event_2) ?_
            refine Any.p 2 rfl (by kernel_rfl) (by kernel_rfl) (by kernel_rfl) rfl (Ev.ldB sc.uint64) ?_
            refine Any.call 3 rfl (by kernel_rfl) (by kernel_rfl) (by kernel_rfl) rfl (fun w hw => msgWhole) ?_
            refine Any.p 4 rfl (by kernel_rfl) (by kernel_rfl) (by kernel_rfl) rfl (Ev.faB fd.api_Event_8) ?_
            refine Any.p 5 rfl (by kernel_rfl) (by kernel_rfl) (by kernel_rfl) rfl (Ev.ldB sc.int) ?_
            refine Any.call 6 rfl (by kernel_rfl) (by kernel_rfl) (by kernel_rfl) rfl (fun w hw => msgUpTo) ?_
            refine Any.p 7 rfl (by kernel_rfl) (by kernel_rfl) (by kernel_rfl) rfl (Ev.faB fd.api_Event_9) ?_
            refine Any.p 8 rfl (by kernel_rfl) (by kernel_rfl) (by kernel_rfl) rfl (Ev.ldB sc.uint64) ?_
            refine Any.call 9 rfl (by kernel_rfl) (by kernel_rfl) (by kernel_rfl) rfl (fun w hw => msgWhole) ?_
            refine Any.one 10 rfl (by kernel_rfl) ?_
            refine Seq.buildSlN [_, _, _, _, _, _, _, _, _] (hsl := sl.sl_message_field) (hz := z.message_field) (k := ?_); intro b98
            refine Seq.nil ⟨(by repeat (first | exact Part.refl _ | exact Part.nil _ | apply Part.here | apply Part.skip)), ?_⟩
            refine Any.one 11 rfl (by kernel_rfl) ?_
            refine Seq.append (hsl := sl.sl_message_field) (he := el.message_field) (hsrc := (fun w' hw => Src.box (hl := by rfl) (hc := fun q u hu => hu) sl.sl_message_field At.z hw)) (k := ?_); intro A99 c99
            refine Seq.nil ⟨(by repeat (first | exact Part.refl _ | exact Part.nil _ | apply Part.here | apply Part.skip)), ?_⟩
            refine Any.p 12 rfl (by kernel_rfl) (by kernel_rfl) (by kernel_rfl) rfl Ev.assign ?_
            refine Any.p 13 rfl (by kernel_rfl) (by kernel_rfl) (by kernel_rfl) rfl Ev.assign ?_
            refine Any.done (by kernel_rfl) ?_
            refine JC.ret ?_
            -- return 4
            show retQ _ _ _ _ _ _ _ _
            refine ret2 (hp := Part.skip (Part.here (Part.nil _))) (hpost := ?_)
            have hF : evFieldsF e = some (evFields5 e) := by rw [evFieldsF, if_neg c11, if_neg c38, if_neg c52, if_neg c72, if_pos c86]
            rw [hF]
            exact ⟨_, _, rfl, rfl⟩
          · -- else_t86
            refine JC.skip ?_
            refine JC.rs ?_
            refine Seq.p rfl Ev.assign ?_
            refine Seq.p rfl Ev.assign ?_
            refine Seq.nil ?_
            refine JC.ret ?_
            -- return 5
            show retQ _ _ _ _ _ _ _ _
            refine ret2 (hp := Part.nil _) (hpost := ?_)
            have hF : evFieldsF e = none := by rw [evFieldsF, if_neg c11, if_neg c38, if_neg c52, if_neg c72, if_neg c86]
            rw [hF]
            rfl
def toldRF (k : Int) : List RF :=
  if k = 1 then [⟨34, 0, 0, 0⟩, ⟨11, 0, 1, 0⟩, ⟨1, 4294967295, 3, 0⟩, ⟨54, 255, 3, 32⟩, ⟨40, 255, 3, 40⟩, ⟨44, 4294967295, 4, 0⟩, ⟨38, 0, 5, 0⟩, ⟨210, 0, 6, 0⟩]
  else if k = 2 then [⟨34, 0, 0, 0⟩, ⟨11, 0, 1, 0⟩, ⟨41, 0, 2, 0⟩, ⟨103, 4294967295, 4, 32⟩]
  else if k = 3 then [⟨34, 0, 0, 0⟩, ⟨11, 0, 1, 0⟩, ⟨37, 0, 2, 0⟩, ⟨54, 255, 3, 32⟩, ⟨44, 4294967295, 4, 0⟩, ⟨38, 0, 5, 0⟩]
  else if k = 4 then [⟨34, 0, 0, 0⟩, ⟨11, 0, 1, 0⟩, ⟨38, 0, 5, 0⟩, ⟨378, 255, 3, 48⟩]
  else if k = 5 then [⟨34, 0, 0, 0⟩, ⟨11, 0, 1, 0⟩, ⟨44, 4294967295, 4, 0⟩, ⟨38, 0, 5, 0⟩]
  else []
set_option maxHeartbeats 4000000 in
set_option maxRecDepth 100000 in
theorem refTold {w : World} {k : Int} (hk : 1 ≤ k ∧ k ≤ 5) : Spec Go.Proofs.Tryz.prog 33 #[.int .i64 k] w [] (RowPost (toldRF k)) := by
  refine Spec.enter (fn := Go.Proofs.Tryz.f33) (n := 55) [.int .i64 k] Go.Proofs.Tryz.func33 (by kernel_rfl) rfl Go.Proofs.Tryz.ntmps33 Go.Proofs.Tryz.results33 rfl (Own.nil _) ?_
  refine JC.rs ?_
  refine Seq.p rfl Ev.assign ?_
  refine Seq.nil ?_
  refine JC.rs ?_
  refine Seq.p rfl (Ev.buildN [_, _, _, _] pl.bourseref04_field z.bourseref04_field) ?_
  refine Seq.p rfl (Ev.buildN [_, _, _, _] pl.bourseref04_field z.bourseref04_field) ?_
  refine Seq.alloc (cs := [_, _, _, _]) (hz := z.bourseref04_field) (k := ?_); intro b3
  refine Seq.alloc (cs := [_, _, _, _]) (hz := z.bourseref04_field) (k := ?_); intro b4
  refine Seq.storeN [_, _, _, _] sz.bourseref04_field (k := ?_)
  refine Seq.storeN [_, _, _, _] sz.bourseref04_field (k := ?_)
  refine Seq.nil ?_
  refine JC.rs ?_
  refine Seq.p rfl (Ev.buildN [_, _, _, _] pl.bourseref04_field z.bourseref04_field) ?_
  refine Seq.p rfl (Ev.buildN [_, _, _, _] pl.bourseref04_field z.bourseref04_field) ?_
  refine Seq.p rfl (Ev.buildN [_, _, _, _] pl.bourseref04_field z.bourseref04_field) ?_
  refine Seq.alloc (cs := [_, _, _, _]) (hz := z.bourseref04_field) (k := ?_); intro b5
  refine Seq.alloc (cs := [_, _, _, _]) (hz := z.bourseref04_field) (k := ?_); intro b6
  refine Seq.alloc (cs := [_, _, _, _]) (hz := z.bourseref04_field) (k := ?_); intro b7
  refine Seq.storeN [_, _, _, _] sz.bourseref04_field (k := ?_)
  refine Seq.storeN [_, _, _, _] sz.bourseref04_field (k := ?_)
  refine Seq.storeN [_, _, _, _] sz.bourseref04_field (k := ?_)
  refine Seq.nil ?_
  refine JC.seq ?_
  refine JC.rs ?_
  refine Seq.p rfl Ev.move ?_
  refine Seq.nil ?_
  refine JC.blk ?_
  refine JC.rs ?_
  refine Seq.p rfl Ev.eq ?_
  refine Seq.p rfl Ev.assign ?_
  refine Seq.nil ?_
  first | refine JC.c (ht := fun c14 => ?_) (hf := fun c14 => ?_) | refine JC.cb (ht := fun c14 => ?_) (hf := fun c14 => ?_)
  · -- then_t14
    refine JC.rs ?_
    refine Seq.p rfl (Ev.ldBA ag.bourseref04_field) ?_
    refine Seq.p rfl (Ev.ldBA ag.bourseref04_field) ?_
    refine Seq.p rfl (Ev.buildN [_, _, _, _] pl.bourseref04_field z.bourseref04_field) ?_
    refine Seq.p rfl (Ev.ldBA ag.bourseref04_field) ?_
    refine Seq.p rfl (Ev.buildN [_, _, _, _] pl.bourseref04_field z.bourseref04_field) ?_
    refine Seq.p rfl (Ev.ldBA ag.bourseref04_field) ?_
    refine Seq.p rfl (Ev.ldBA ag.bourseref04_field) ?_
    refine Seq.p rfl (Ev.buildN [_, _, _, _] pl.bourseref04_field z.bourseref04_field) ?_
    refine Seq.buildSlS [_, _, _, _, _, _, _, _, _, _, _, _, _, _, _, _, _, _, _, _, _, _, _, _, _, _, _, _, _, _, _, _] (hsl := sl.sl_bourseref04_field) (hz := z.bourseref04_field) (k := ?_); intro b24
    refine Seq.p rfl Ev.assign ?_
    refine Seq.nil ?_
    refine JC.ret ?_
    -- return 0
    show retQ _ _ _ _ _ _ _ _
    refine ret1 (hp := Part.here (Part.nil _)) (hpost := ?_)
    rw [toldRF, if_pos c14]
    exact ⟨_, rfl, rfl⟩
  · -- else_t14
    refine JC.rs ?_
    refine Seq.p rfl Ev.eq ?_
    refine Seq.p rfl Ev.assign ?_
    refine Seq.nil ?_
    first | refine JC.c (ht := fun c25 => ?_) (hf := fun c25 => ?_) | refine JC.cb (ht := fun c25 => ?_) (hf := fun c25 => ?_)
    · -- then_t25
      refine JC.rs ?_
      refine Seq.p rfl (Ev.ldBA ag.bourseref04_field) ?_
      refine Seq.p rfl (Ev.ldBA ag.bourseref04_field) ?_
      refine Seq.p rfl (Ev.buildN [_, _, _, _] pl.bourseref04_field z.bourseref04_field) ?_
      refine Seq.p rfl (Ev.buildN [_, _, _, _] pl.bourseref04_field z.bourseref04_field) ?_
      refine Seq.buildSlN [_, _, _, _, _, _, _, _, _, _, _, _, _, _, _, _] (hsl := sl.sl_bourseref04_field) (hz := z.bourseref04_field) (k := ?_); intro b31
      refine Seq.p rfl Ev.assign ?_
      refine Seq.nil ?_
      refine JC.ret ?_
      -- return 1
      show retQ _ _ _ _ _ _ _ _
      refine ret1 (hp := Part.here (Part.nil _)) (hpost := ?_)
      rw [toldRF, if_neg c14, if_pos c25]
      exact ⟨_, rfl, rfl⟩
    · -- else_t25
      refine JC.rs ?_
      refine Seq.p rfl Ev.eq ?_
      refine Seq.p rfl Ev.assign ?_
      refine Seq.nil ?_
      first | refine JC.c (ht := fun c32 => ?_) (hf := fun c32 => ?_) | refine JC.cb (ht := fun c32 => ?_) (hf := fun c32 => ?_)
      · -- then_t32
        refine JC.rs ?_
        refine Seq.p rfl (Ev.ldBA ag.bourseref04_field) ?_
        refine Seq.p rfl (Ev.ldBA ag.bourseref04_field) ?_
        refine Seq.p rfl (Ev.buildN [_, _, _, _] pl.bourseref04_field z.bourseref04_field) ?_
        refine Seq.p rfl (Ev.ldBA ag.bourseref04_field) ?_
        refine Seq.p rfl (Ev.ldBA ag.bourseref04_field) ?_
        refine Seq.p rfl (Ev.ldBA ag.bourseref04_field) ?_
        refine Seq.buildSlS [_, _, _, _, _, _, _, _, _, _, _, _, _, _, _, _, _, _, _, _, _, _, _, _] (hsl := sl.sl_bourseref04_field) (hz := z.bourseref04_field) (k := ?_); intro b40
        refine Seq.p rfl Ev.assign ?_
        refine Seq.nil ?_
        refine JC.ret ?_
        -- return 2
        show retQ _ _ _ _ _ _ _ _
        refine ret1 (hp := Part.here (Part.nil _)) (hpost := ?_)
        rw [toldRF, if_neg c14, if_neg c25, if_pos c32]
        exact ⟨_, rfl, rfl⟩
      · -- else_t32
        refine JC.rs ?_
        refine Seq.p rfl Ev.eq ?_
        refine Seq.p rfl Ev.assign ?_
        refine Seq.nil ?_
        first | refine JC.c (ht := fun c41 => ?_) (hf := fun c41 => ?_) | refine JC.cb (ht := fun c41 => ?_) (hf := fun c41 => ?_)
        · -- then_t41
          refine JC.rs ?_
          refine Seq.p rfl (Ev.ldBA ag.bourseref04_field) ?_
          refine Seq.p rfl (Ev.ldBA ag.bourseref04_field) ?_
          refine Seq.p rfl (Ev.ldBA ag.bourseref04_field) ?_
          refine Seq.p rfl (Ev.buildN [_, _, _, _] pl.bourseref04_field z.bourseref04_field) ?_
          refine Seq.buildSlN [_, _, _, _, _, _, _, _, _, _, _, _, _, _, _, _] (hsl := sl.sl_bourseref04_field) (hz := z.bourseref04_field) (k := ?_); intro b47
          refine Seq.p rfl Ev.assign ?_
          refine Seq.nil ?_
          refine JC.ret ?_
          -- return 3
          show retQ _ _ _ _ _ _ _ _
          refine ret1 (hp := Part.here (Part.nil _)) (hpost := ?_)
          rw [toldRF, if_neg c14, if_neg c25, if_neg c32, if_pos c41]
          exact ⟨_, rfl, rfl⟩
        · -- else_t41
          refine JC.rs ?_
          refine Seq.p rfl Ev.eq ?_
          refine Seq.p rfl Ev.assign ?_
          refine Seq.nil ?_
          first | refine JC.c (ht := fun c48 => ?_) (hf := fun c48 => ?_) | refine JC.cb (ht := fun c48 => ?_) (hf := fun c48 => ?_)
          · -- then_t48
            refine JC.rs ?_
            refine Seq.p rfl (Ev.ldBA ag.bourseref04_field) ?_
            refine Seq.p rfl (Ev.ldBA ag.bourseref04_field) ?_
            refine Seq.p rfl (Ev.ldBA ag.bourseref04_field) ?_
            refine Seq.p rfl (Ev.ldBA ag.bourseref04_field) ?_
            refine Seq.buildSlN [_, _, _, _, _, _, _, _, _, _, _, _, _, _, _, _] (hsl := sl.sl_bourseref04_field) (hz := z.bourseref04_field) (k := ?_); intro b54
            refine Seq.p rfl Ev.assign ?_
            refine Seq.nil ?_
            refine JC.ret ?_
            -- return 4
            show retQ _ _ _ _ _ _ _ _
            refine ret1 (hp := Part.here (Part.nil _)) (hpost := ?_)
            rw [toldRF, if_neg c14, if_neg c25, if_neg c32, if_neg c41, if_pos c48]
            exact ⟨_, rfl, rfl⟩
          · -- else_t48
            exfalso; omega
set_option maxHeartbeats 4000000 in
set_option maxRecDepth 100000 in
theorem refTold0 {w : World} {k : Int} (hk : ¬ (1 ≤ k ∧ k ≤ 5)) : Spec Go.Proofs.Tryz.prog 33 #[.int .i64 k] w [] (fun u _ => u = .slice none 0 0) := by
  refine Spec.enter (fn := Go.Proofs.Tryz.f33) (n := 55) [.int .i64 k] Go.Proofs.Tryz.func33 (by kernel_rfl) rfl Go.Proofs.Tryz.ntmps33 Go.Proofs.Tryz.results33 rfl (Own.nil _) ?_
  refine JC.rs ?_
  refine Seq.p rfl Ev.assign ?_
  refine Seq.nil ?_
  refine JC.rs ?_
  refine Seq.p rfl (Ev.buildN [_, _, _, _] pl.bourseref04_field z.bourseref04_field) ?_
  refine Seq.p rfl (Ev.buildN [_, _, _, _] pl.bourseref04_field z.bourseref04_field) ?_
  refine Seq.alloc (cs := [_, _, _, _]) (hz := z.bourseref04_field) (k := ?_); intro b3
  refine Seq.alloc (cs := [_, _, _, _]) (hz := z.bourseref04_field) (k := ?_); intro b4
  refine Seq.storeN [_, _, _, _] sz.bourseref04_field (k := ?_)
  refine Seq.storeN [_, _, _, _] sz.bourseref04_field (k := ?_)
  refine Seq.nil ?_
  refine JC.rs ?_
  refine Seq.p rfl (Ev.buildN [_, _, _, _] pl.bourseref04_field z.bourseref04_field) ?_
  refine Seq.p rfl (Ev.buildN [_, _, _, _] pl.bourseref04_field z.bourseref04_field) ?_
  refine Seq.p rfl (Ev.buildN [_, _, _, _] pl.bourseref04_field z.bourseref04_field) ?_
  refine Seq.alloc (cs := [_, _, _, _]) (hz := z.bourseref04_field) (k := ?_); intro b5
  refine Seq.alloc (cs := [_, _, _, _]) (hz := z.bourseref04_field) (k := ?_); intro b6
  refine Seq.alloc (cs := [_, _, _, _]) (hz := z.bourseref04_field) (k := ?_); intro b7
  refine Seq.storeN [_, _, _, _] sz.bourseref04_field (k := ?_)
  refine Seq.storeN [_, _, _, _] sz.bourseref04_field (k := ?_)
  refine Seq.storeN [_, _, _, _] sz.bourseref04_field (k := ?_)
  refine Seq.nil ?_
  refine JC.seq ?_
  refine JC.rs ?_
  refine Seq.p rfl Ev.move ?_
  refine Seq.nil ?_
  refine JC.blk ?_
  refine JC.rs ?_
  refine Seq.p rfl Ev.eq ?_
  refine Seq.p rfl Ev.assign ?_
  refine Seq.nil ?_
  first | refine JC.c (ht := fun c14 => ?_) (hf := fun c14 => ?_) | refine JC.cb (ht := fun c14 => ?_) (hf := fun c14 => ?_)
  · -- then_t14
    exfalso; omega
  · -- else_t14
    refine JC.rs ?_
    refine Seq.p rfl Ev.eq ?_
    refine Seq.p rfl Ev.assign ?_
    refine Seq.nil ?_
    first | refine JC.c (ht := fun c25 => ?_) (hf := fun c25 => ?_) | refine JC.cb (ht := fun c25 => ?_) (hf := fun c25 => ?_)
    · -- then_t25
      exfalso; omega
    · -- else_t25
      refine JC.rs ?_
      refine Seq.p rfl Ev.eq ?_
      refine Seq.p rfl Ev.assign ?_
      refine Seq.nil ?_
      first | refine JC.c (ht := fun c32 => ?_) (hf := fun c32 => ?_) | refine JC.cb (ht := fun c32 => ?_) (hf := fun c32 => ?_)
      · -- then_t32
        exfalso; omega
      · -- else_t32
        refine JC.rs ?_
        refine Seq.p rfl Ev.eq ?_
        refine Seq.p rfl Ev.assign ?_
        refine Seq.nil ?_
        first | refine JC.c (ht := fun c41 => ?_) (hf := fun c41 => ?_) | refine JC.cb (ht := fun c41 => ?_) (hf := fun c41 => ?_)
        · -- then_t41
          exfalso; omega
        · -- else_t41
          refine JC.rs ?_
          refine Seq.p rfl Ev.eq ?_
          refine Seq.p rfl Ev.assign ?_
          refine Seq.nil ?_
          first | refine JC.c (ht := fun c48 => ?_) (hf := fun c48 => ?_) | refine JC.cb (ht := fun c48 => ?_) (hf := fun c48 => ?_)
          · -- then_t48
            exfalso; omega
          · -- else_t48
            refine JC.skip ?_
            refine JC.rs ?_
            refine Seq.p rfl Ev.assign ?_
            refine Seq.nil ?_
            refine JC.ret ?_
            -- return 0
            show retQ _ _ _ _ _ _ _ _
            refine ret1 (hp := Part.nil _) (hpost := ?_)
            rfl
end Go.Rx
namespace Go.Rx
open Go Go.RowKit
set_option linter.unusedVariables false
set_option linter.unusedSimpArgs false
def toldEvE (e : Event) : Int := match evFieldsF e with | none => 41 | some fs => if fs.all (·.fits) = true ∧ eventOfF e.kind (numsF fs) = e then 0 else 40
def EvToldPost (e : Event) (u : Value) (N : List Chunk) : Prop :=
  if toldEvE e = 0 then ∃ fs A c b, evFieldsF e = some fs ∧ u = .tuple #[.slice A fs.length c, .map (some b), .int .i64 0] ∧ N = [.mi b .i64 .u64 (numsF fs), .own 119 3 (.slice A fs.length c) fs.length (fs.flatMap Fld.enc)]
  else u = .tuple #[.slice none 0 0, .map none, .int .i64 (toldEvE e)]
theorem evFieldsF_small {e : Event} {fs : List Fld} (h : evFieldsF e = some fs) : fs.length ≤ 8 ∧ 1 ≤ e.kind ∧ e.kind ≤ 5 := by
  unfold evFieldsF at h
  repeat (first | (split at h) | (simp only [Option.some.injEq] at h; subst h; exact ⟨Nat.le_of_ble_eq_true rfl, by omega, by omega⟩) | cases h)
set_option maxHeartbeats 2000000 in
theorem msgToldEv0 {w : World} {e : Event} (hF : evFieldsF e = none) : Spec Go.Proofs.Tryz.prog 39 #[.agg e.enc.toArray] w [] (EvToldPost e) := by
  have hE : toldEvE e = 41 := by unfold toldEvE; rw [hF]
  refine Spec.enter (fn := Go.Proofs.Tryz.f39) (n := 32) [.agg e.enc.toArray] Go.Proofs.Tryz.func39 (by kernel_rfl) rfl Go.Proofs.Tryz.ntmps39 Go.Proofs.Tryz.results39 rfl (Own.nil _) ?_
  refine JC.rs ?_
  refine Seq.box (cs := [_, _, _, _, _, _, _, _, _, _, _, _, _]) (k := ?_); intro b1
  refine Seq.p rfl Ev.assign ?_
  refine Seq.p rfl Ev.assign ?_
  refine Seq.p rfl Ev.assign ?_
  refine Seq.nil ?_
  refine JC.rs ?_
  refine Seq.p rfl (Ev.ldBA ag.api_Event) ?_
  refine Seq.call rfl (fun w hw => hF ▸ msgEventFields) (F := _) (by exact List.Perm.refl _) ?_
  rintro _ N rfl
  refine Seq.p rfl Ev.move ?_
  refine Seq.p rfl Ev.extract ?_
  refine Seq.p rfl Ev.extract ?_
  refine Seq.p rfl Ev.assign ?_
  refine Seq.p rfl Ev.assign ?_
  refine Seq.nil ?_
  refine JC.seq ?_
  refine JC.rs ?_
  refine Seq.p rfl Ev.move ?_
  refine Seq.p rfl Ev.not ?_
  refine Seq.nil ?_
  first | refine JC.c (ht := fun c14 => ?_) (hf := fun c14 => ?_) | refine JC.cb (ht := fun c14 => ?_) (hf := fun c14 => ?_)
  · -- then_t14
    refine JC.rs ?_
    refine Seq.p rfl Ev.assign ?_
    refine Seq.p rfl Ev.assign ?_
    refine Seq.p rfl Ev.assign ?_
    refine Seq.nil ?_
    refine JC.ret ?_
    -- return 0
    show retQ _ _ _ _ _ _ _ _
    refine ret3 (hp := Part.nil _) (hpost := ?_)
    show EvToldPost _ _ _
    rw [EvToldPost, if_neg (by rw [hE]; decide), hE]
  · -- else_t14
    cases c14
set_option maxHeartbeats 2000000 in
theorem msgToldEv1 {w : World} {e : Event} {fs : List Fld} (hF : evFieldsF e = some fs) (hn : ¬ fs.all (·.fits) = true) : Spec Go.Proofs.Tryz.prog 39 #[.agg e.enc.toArray] w [] (EvToldPost e) := by
  have hE : toldEvE e = 40 := by unfold toldEvE; rw [hF]; exact if_neg (fun h => hn h.1)
  have hsm := (evFieldsF_small hF).1
  refine Spec.enter (fn := Go.Proofs.Tryz.f39) (n := 32) [.agg e.enc.toArray] Go.Proofs.Tryz.func39 (by kernel_rfl) rfl Go.Proofs.Tryz.ntmps39 Go.Proofs.Tryz.results39 rfl (Own.nil _) ?_
  refine JC.rs ?_
  refine Seq.box (cs := [_, _, _, _, _, _, _, _, _, _, _, _, _]) (k := ?_); intro b1
  refine Seq.p rfl Ev.assign ?_
  refine Seq.p rfl Ev.assign ?_
  refine Seq.p rfl Ev.assign ?_
  refine Seq.nil ?_
  refine JC.rs ?_
  refine Seq.p rfl (Ev.ldBA ag.api_Event) ?_
  refine Seq.call rfl (fun w hw => hF ▸ msgEventFields) (F := _) (by exact List.Perm.refl _) ?_
  rintro _ _ ⟨A, cc, rfl, rfl⟩
  refine Seq.p rfl Ev.move ?_
  refine Seq.p rfl Ev.extract ?_
  refine Seq.p rfl Ev.extract ?_
  refine Seq.p rfl Ev.assign ?_
  refine Seq.p rfl Ev.assign ?_
  refine Seq.nil ?_
  refine JC.seq ?_
  refine JC.rs ?_
  refine Seq.p rfl Ev.move ?_
  refine Seq.p rfl Ev.not ?_
  refine Seq.nil ?_
  first | refine JC.c (ht := fun c14 => ?_) (hf := fun c14 => ?_) | refine JC.cb (ht := fun c14 => ?_) (hf := fun c14 => ?_)
  · -- then_t14
    cases c14
  · -- else_t14
    refine JC.skip ?_
    refine JC.rs ?_
    refine Seq.p rfl Ev.move ?_
    refine Seq.call rfl (fun w hw => msgNumbers (RAt.up (RAt.own (enc := Fld.enc) (xs := fs) (sz := 3) (hs := by omega)) hw)) (F := _) (by exact List.Perm.refl _) ?_
    intro u N hN
    rw [NumsPost, if_neg hn] at hN
    subst hN
    refine Seq.p rfl Ev.move ?_
    refine Seq.p rfl Ev.extract ?_
    refine Seq.p rfl Ev.extract ?_
    refine Seq.p rfl Ev.assign ?_
    refine Seq.p rfl Ev.assign ?_
    refine Seq.nil ?_
    refine JC.seq ?_
    refine JC.qs mixed (by kernel_rfl) ?_
    refine Qui.p rfl Ev.move ?_
    refine Qui.p rfl Ev.not ?_
    refine Qui.p rfl Ev.move ?_
    refine Qui.split (d := 22) (k := ?_)
    rintro (_|_) h22
    · try simp only [decide_eq_true_eq, decide_eq_false_iff_not] at h22
      cases h22
    · try simp only [decide_eq_true_eq, decide_eq_false_iff_not] at h22
      refine Qui.gn rfl rfl rfl rfl ?_
      refine Qui.gn rfl rfl rfl rfl ?_
      refine Qui.gn rfl rfl rfl rfl ?_
      refine Qui.gn rfl rfl rfl rfl ?_
      refine Qui.gn rfl rfl rfl rfl ?_
      refine Qui.gn rfl rfl rfl rfl ?_
      refine Qui.p rfl Ev.pickT ?_
      refine Qui.nil ?_
      refine JC.cT (h := ?_)
      refine JC.rs ?_
      refine Seq.p rfl Ev.assign ?_
      refine Seq.p rfl Ev.assign ?_
      refine Seq.p rfl Ev.assign ?_
      refine Seq.nil ?_
      refine JC.ret ?_
      -- return 0
      show retQ _ _ _ _ _ _ _ _
      refine ret3 (hp := Part.nil _) (hpost := ?_)
      show EvToldPost _ _ _
      rw [EvToldPost, if_neg (by rw [hE]; decide), hE]
set_option maxHeartbeats 2000000 in
theorem msgToldEv2 {w : World} {e : Event} {fs : List Fld} (hF : evFieldsF e = some fs) (hn : fs.all (·.fits) = true) : Spec Go.Proofs.Tryz.prog 39 #[.agg e.enc.toArray] w [] (EvToldPost e) := by
  have hE : toldEvE e = if eventOfF e.kind (numsF fs) = e then 0 else 40 := by
    unfold toldEvE
    rw [hF]
    simp only [hn, true_and]
  have hsm := (evFieldsF_small hF).1
  refine Spec.enter (fn := Go.Proofs.Tryz.f39) (n := 32) [.agg e.enc.toArray] Go.Proofs.Tryz.func39 (by kernel_rfl) rfl Go.Proofs.Tryz.ntmps39 Go.Proofs.Tryz.results39 rfl (Own.nil _) ?_
  refine JC.rs ?_
  refine Seq.box (cs := [_, _, _, _, _, _, _, _, _, _, _, _, _]) (k := ?_); intro b1
  refine Seq.p rfl Ev.assign ?_
  refine Seq.p rfl Ev.assign ?_
  refine Seq.p rfl Ev.assign ?_
  refine Seq.nil ?_
  refine JC.rs ?_
  refine Seq.p rfl (Ev.ldBA ag.api_Event) ?_
  refine Seq.call rfl (fun w hw => hF ▸ msgEventFields) (F := _) (by exact List.Perm.refl _) ?_
  rintro _ _ ⟨A, cc, rfl, rfl⟩
  refine Seq.p rfl Ev.move ?_
  refine Seq.p rfl Ev.extract ?_
  refine Seq.p rfl Ev.extract ?_
  refine Seq.p rfl Ev.assign ?_
  refine Seq.p rfl Ev.assign ?_
  refine Seq.nil ?_
  refine JC.seq ?_
  refine JC.rs ?_
  refine Seq.p rfl Ev.move ?_
  refine Seq.p rfl Ev.not ?_
  refine Seq.nil ?_
  first | refine JC.c (ht := fun c14 => ?_) (hf := fun c14 => ?_) | refine JC.cb (ht := fun c14 => ?_) (hf := fun c14 => ?_)
  · -- then_t14
    cases c14
  · -- else_t14
    refine JC.skip ?_
    refine JC.rs ?_
    refine Seq.p rfl Ev.move ?_
    refine Seq.call rfl (fun w hw => msgNumbers (RAt.up (RAt.own (enc := Fld.enc) (xs := fs) (sz := 3) (hs := by omega)) hw)) (F := _) (by exact List.Perm.refl _) ?_
    intro u N hN
    rw [NumsPost, if_pos hn] at hN
    obtain ⟨bn, rfl, rfl⟩ := hN
    refine Seq.p rfl Ev.move ?_
    refine Seq.p rfl Ev.extract ?_
    refine Seq.p rfl Ev.extract ?_
    refine Seq.p rfl Ev.assign ?_
    refine Seq.p rfl Ev.assign ?_
    refine Seq.nil ?_
    refine JC.seq ?_
    refine JC.qs mixed (by kernel_rfl) ?_
    refine Qui.p rfl Ev.move ?_
    refine Qui.p rfl Ev.not ?_
    refine Qui.p rfl Ev.move ?_
    refine Qui.split (d := 22) (k := ?_)
    rintro (_|_) h22
    · try simp only [decide_eq_true_eq, decide_eq_false_iff_not] at h22
      refine Qui.gy rfl rfl rfl ?_
      refine Qui.p rfl (Ev.faB fd.api_Event_1) ?_
      refine Qui.gy rfl rfl rfl ?_
      refine Qui.p rfl (Ev.ldB sc.int) ?_
      refine Qui.gy rfl rfl rfl ?_
      refine Qui.p rfl Ev.move ?_
      refine Qui.gy rfl rfl rfl ?_
      refine Qui.call rfl (fun w hw => msgEventOf (RM.up RM.own hw)) ?_
      refine Qui.gy rfl rfl rfl ?_
      refine Qui.p rfl (Ev.ldBA ag.api_Event) ?_
      refine Qui.gy rfl rfl rfl ?_
      refine Qui.p rfl (Ev.neAg so.api_Event ag.api_Event gd.api_Event) ?_
      refine Qui.p rfl Ev.pickF ?_
      refine Qui.nil ?_
      first | refine JC.c (ht := fun c29 => ?_) (hf := fun c29 => ?_) | refine JC.cb (ht := fun c29 => ?_) (hf := fun c29 => ?_)
      · -- then_t29
        have c35 : (!eqL (eventOfF e.kind (numsF fs)).enc e.enc) = true := c29
        rw [Event.eqL_enc] at c35
        have hne : ¬ eventOfF e.kind (numsF fs) = e := by simpa using c35
        rw [if_neg hne] at hE
        refine JC.rs ?_
        refine Seq.p rfl Ev.assign ?_
        refine Seq.p rfl Ev.assign ?_
        refine Seq.p rfl Ev.assign ?_
        refine Seq.nil ?_
        refine JC.ret ?_
        -- return 0
        show retQ _ _ _ _ _ _ _ _
        refine ret3 (hp := Part.nil _) (hpost := ?_)
        show EvToldPost _ _ _
        rw [EvToldPost, if_neg (by rw [hE]; decide), hE]
      · -- else_t29
        have c35 : (!eqL (eventOfF e.kind (numsF fs)).enc e.enc) = false := c29
        rw [Event.eqL_enc] at c35
        have heq : eventOfF e.kind (numsF fs) = e := of_ndec c35
        rw [if_pos heq] at hE
        refine JC.skip ?_
        refine JC.rs ?_
        refine Seq.p rfl Ev.move ?_
        refine Seq.p rfl Ev.move ?_
        refine Seq.p rfl Ev.assign ?_
        refine Seq.p rfl Ev.assign ?_
        refine Seq.p rfl Ev.assign ?_
        refine Seq.nil ?_
        refine JC.ret ?_
        -- return 1
        show retQ _ _ _ _ _ _ _ _
        refine ret3 (H' := [.mi bn .i64 .u64 (numsF fs), .own 119 3 (.slice A fs.length cc) fs.length (fs.flatMap Fld.enc)]) (hp := Part.here (Part.here (Part.nil _))) (hpost := ?_)
        show EvToldPost _ _ _
        rw [EvToldPost, if_pos hE]
        exact ⟨fs, A, cc, bn, hF, rfl, rfl⟩
    · try simp only [decide_eq_true_eq, decide_eq_false_iff_not] at h22
      cases h22
theorem msgToldEv {w : World} {e : Event} : Spec Go.Proofs.Tryz.prog 39 #[.agg e.enc.toArray] w [] (EvToldPost e) := by
  rcases hF : evFieldsF e with _ | fs
  · exact msgToldEv0 hF
  · by_cases hn : fs.all (·.fits) = true
    · exact msgToldEv2 hF hn
    · exact msgToldEv1 hF hn
def evFrameF (k : Int) (ms : List (Int × Int)) : Frame :=
  ⟨(64 + k) % 256, [iget ms 34, iget ms 11, add64 (iget ms 37) (iget ms 41), add64 (add64 (add64 (iget ms 1) (up (iget ms 54) 32)) (up (iget ms 40) 40)) (up (iget ms 378) 48), add64 (iget ms 44) (up (iget ms 103) 32), iget ms 38, iget ms 210]⟩
def packEvF (e : Event) : Frame × Int := if toldEvE e = 0 then (match evFieldsF e with | some fs => evFrameF e.kind (numsF fs) | none => frame0, 0) else (frame0, toldEvE e)
set_option maxHeartbeats 2000000 in
theorem msgPackEv0 {w : World} {e : Event} (hE : ¬ toldEvE e = 0) : Spec Go.Proofs.Tryz.prog 15 #[.agg e.enc.toArray] w [] (fun u _ => u = packV (packEvF e)) := by
  refine Spec.enter (fn := Go.Proofs.Tryz.f15) (n := 56) [.agg e.enc.toArray] Go.Proofs.Tryz.func15 (by kernel_rfl) rfl Go.Proofs.Tryz.ntmps15 Go.Proofs.Tryz.results15 rfl (Own.nil _) ?_
  refine JC.rs ?_
  refine Seq.box (cs := [_, _, _, _, _, _, _, _, _, _, _, _, _]) (k := ?_); intro b1
  refine Seq.alloc (cs := [_, _, _, _, _, _, _, _]) (hz := z.api_Frame) (k := ?_); intro b2
  refine Seq.p rfl Ev.assign ?_
  refine Seq.nil ?_
  refine JC.rs ?_
  refine Seq.p rfl (Ev.ldBA ag.api_Event) ?_
  refine Seq.call rfl (fun w hw => msgToldEv) (F := _) (by exact List.Perm.refl _) ?_
  intro u N hN
  rw [EvToldPost, if_neg hE] at hN
  subst hN
  refine Seq.re (fun w h => h.part ⟨N, List.perm_append_comm⟩) ?_
  refine Seq.p rfl Ev.move ?_
  refine Seq.p rfl Ev.extract ?_
  refine Seq.p rfl Ev.extract ?_
  refine Seq.p rfl Ev.extract ?_
  refine Seq.p rfl Ev.assign ?_
  refine Seq.p rfl Ev.assign ?_
  refine Seq.p rfl Ev.assign ?_
  refine Seq.nil ?_
  refine JC.seq ?_
  refine JC.rs ?_
  refine Seq.p rfl Ev.move ?_
  refine Seq.p rfl Ev.ne ?_
  refine Seq.nil ?_
  first | refine JC.c (ht := fun c14 => ?_) (hf := fun c14 => ?_) | refine JC.cb (ht := fun c14 => ?_) (hf := fun c14 => ?_)
  · -- then_t14
    refine JC.rs ?_
    refine Seq.p rfl (Ev.buildN [_, _, _, _, _, _, _, _] pl.api_Frame z.api_Frame) ?_
    refine Seq.p rfl Ev.move ?_
    refine Seq.storeN [_, _, _, _, _, _, _, _] sz.api_Frame (k := ?_)
    refine Seq.p rfl Ev.assign ?_
    refine Seq.nil ?_
    refine JC.ret ?_
    -- return 0
    show retQ _ _ _ _ _ _ _ _
    refine retB2 ag.api_Frame (hp := Part.nil _) (hpost := ?_)
    rw [packEvF, if_neg hE]
    rfl
  · -- else_t14
    exact absurd hE c14
set_option maxHeartbeats 4000000 in
theorem msgPackEv1 {w : World} {e : Event} (hE : toldEvE e = 0) : Spec Go.Proofs.Tryz.prog 15 #[.agg e.enc.toArray] w [] (fun u _ => u = packV (packEvF e)) := by
  refine Spec.enter (fn := Go.Proofs.Tryz.f15) (n := 56) [.agg e.enc.toArray] Go.Proofs.Tryz.func15 (by kernel_rfl) rfl Go.Proofs.Tryz.ntmps15 Go.Proofs.Tryz.results15 rfl (Own.nil _) ?_
  refine JC.rs ?_
  refine Seq.box (cs := [_, _, _, _, _, _, _, _, _, _, _, _, _]) (k := ?_); intro b1
  refine Seq.alloc (cs := [_, _, _, _, _, _, _, _]) (hz := z.api_Frame) (k := ?_); intro b2
  refine Seq.p rfl Ev.assign ?_
  refine Seq.nil ?_
  refine JC.rs ?_
  refine Seq.p rfl (Ev.ldBA ag.api_Event) ?_
  refine Seq.call rfl (fun w hw => msgToldEv) (F := _) (by exact List.Perm.refl _) ?_
  intro u N hN
  rw [EvToldPost, if_pos hE] at hN
  obtain ⟨fs, A, cc, b3, hF, rfl, rfl⟩ := hN
  have hkd := (evFieldsF_small hF).2
  refine Seq.p rfl Ev.move ?_
  refine Seq.p rfl Ev.extract ?_
  refine Seq.p rfl Ev.extract ?_
  refine Seq.p rfl Ev.extract ?_
  refine Seq.p rfl Ev.assign ?_
  refine Seq.p rfl Ev.assign ?_
  refine Seq.p rfl Ev.assign ?_
  refine Seq.nil ?_
  refine JC.seq ?_
  refine JC.rs ?_
  refine Seq.p rfl Ev.move ?_
  refine Seq.p rfl Ev.ne ?_
  refine Seq.nil ?_
  first | refine JC.c (ht := fun c14 => ?_) (hf := fun c14 => ?_) | refine JC.cb (ht := fun c14 => ?_) (hf := fun c14 => ?_)
  · -- then_t14
    exact absurd rfl c14
  · -- else_t14
    refine JC.skip ?_
    refine JC.rs ?_
    refine Seq.p rfl (Ev.faB fd.api_Event_1) ?_
    refine Seq.p rfl (Ev.ldB sc.int) ?_
    refine Seq.p rfl Ev.add ?_
    refine Seq.p rfl (Ev.convU8W it.int it.uint8) ?_
    refine Seq.p rfl Ev.move ?_
    refine Seq.p rfl (Ev.mapI mp.m_int_uint64 z.uint64 RM.own) ?_
    refine Seq.p rfl Ev.move ?_
    refine Seq.p rfl (Ev.mapI mp.m_int_uint64 z.uint64 RM.own) ?_
    refine Seq.p rfl Ev.move ?_
    refine Seq.p rfl (Ev.mapI mp.m_int_uint64 z.uint64 RM.own) ?_
    refine Seq.p rfl Ev.move ?_
    refine Seq.p rfl (Ev.mapI mp.m_int_uint64 z.uint64 RM.own) ?_
    refine Seq.p rfl Ev.addU ?_
    refine Seq.p rfl Ev.move ?_
    refine Seq.p rfl (Ev.mapI mp.m_int_uint64 z.uint64 RM.own) ?_
    refine Seq.p rfl Ev.move ?_
    refine Seq.p rfl (Ev.mapI mp.m_int_uint64 z.uint64 RM.own) ?_
    refine Seq.p rfl Ev.shlW ?_
    refine Seq.p rfl Ev.addU ?_
    refine Seq.p rfl Ev.move ?_
    refine Seq.p rfl (Ev.mapI mp.m_int_uint64 z.uint64 RM.own) ?_
    refine Seq.p rfl Ev.shlW ?_
    refine Seq.p rfl Ev.addU ?_
    refine Seq.p rfl Ev.move ?_
    refine Seq.p rfl (Ev.mapI mp.m_int_uint64 z.uint64 RM.own) ?_
    refine Seq.p rfl Ev.shlW ?_
    refine Seq.p rfl Ev.addU ?_
    refine Seq.p rfl Ev.move ?_
    refine Seq.p rfl (Ev.mapI mp.m_int_uint64 z.uint64 RM.own) ?_
    refine Seq.p rfl Ev.move ?_
    refine Seq.p rfl (Ev.mapI mp.m_int_uint64 z.uint64 RM.own) ?_
    refine Seq.p rfl Ev.shlW ?_
    refine Seq.p rfl Ev.addU ?_
    refine Seq.p rfl Ev.move ?_
    refine Seq.p rfl (Ev.mapI mp.m_int_uint64 z.uint64 RM.own) ?_
    refine Seq.p rfl Ev.move ?_
    refine Seq.p rfl (Ev.mapI mp.m_int_uint64 z.uint64 RM.own) ?_
    refine Seq.p rfl (Ev.buildArrN [_, _, _, _, _, _, _] ar.a7_uint64 z.a7_uint64) ?_
    refine Seq.p rfl (Ev.buildN [_, _, _, _, _, _, _, _] pl.api_Frame z.api_Frame) ?_
    refine Seq.storeN [_, _, _, _, _, _, _, _] sz.api_Frame (k := ?_)
    refine Seq.p rfl Ev.assign ?_
    refine Seq.nil ?_
    refine JC.ret ?_
    -- return 0
    show retQ _ _ _ _ _ _ _ _
    refine retB2 ag.api_Frame (hp := Part.nil _) (hpost := ?_)
    rw [packEvF, if_pos hE, hF]
    rfl
theorem msgPackEv {w : World} {e : Event} : Spec Go.Proofs.Tryz.prog 15 #[.agg e.enc.toArray] w [] (fun u _ => u = packV (packEvF e)) := by
  by_cases hE : toldEvE e = 0
  · exact msgPackEv1 hE
  · exact msgPackEv0 hE
end Go.Rx
namespace Go.Rx
open Go Go.RowKit
set_option linter.unusedVariables false
set_option linter.unusedSimpArgs false
def evStepF (i : Event) (f : RF) (s : Event × List Int) : Option (Event × List Int) :=
  if (eventValueF i f.tag).2 = false then none else if 0 < f.most ∧ f.most < (eventValueF i f.tag).1 then none else some (withEventF s.1 f.tag (eventValueF i f.tag).1, s.2 ++ [(eventValueF i f.tag).1])
def evValsGo (i : Event) : List RF → Event × List Int → Option (Event × List Int)
  | [], s => some s
  | f :: r, s => match evStepF i f s with | none => none | some s' => evValsGo i r s'
theorem evValsGo_append (i : Event) (xs ys : List RF) (s : Event × List Int) : evValsGo i (xs ++ ys) s = match evValsGo i xs s with | none => none | some s' => evValsGo i ys s' := by
  induction xs generalizing s with
  | nil => rfl
  | cons f r ih =>
    simp only [List.cons_append, evValsGo]
    cases evStepF i f s with
    | none => rfl
    | some s' => exact ih s'
theorem evValsGo_snoc {i : Event} {l : List RF} {k : Nat} (hk : k < l.length) {s s' : Event × List Int} (h : evValsGo i (l.take k) s = some s') : evValsGo i (l.take (k + 1)) s = evStepF i l[k]! s' := by
  have : l.take (k + 1) = l.take k ++ [l[k]!] := by
    rw [List.take_succ_eq_append_getElem hk, getElem!_pos l k hk]
  rw [this, evValsGo_append, h]
  simp only [evValsGo]
  cases evStepF i l[k]! s' <;> rfl
theorem evValsGo_none {i : Event} {l : List RF} {k : Nat} {s : Event × List Int} (h : evValsGo i (l.take k) s = none) : evValsGo i l s = none := by
  rw [← List.take_append_drop k l, evValsGo_append, h]
theorem evValsGo_length {i : Event} : ∀ (l : List RF) (s s' : Event × List Int), evValsGo i l s = some s' → s'.2.length = s.2.length + l.length
  | [], s, s', h => by
    simp only [evValsGo, Option.some.injEq] at h
    subst h
    rfl
  | f :: r, s, s', h => by
    simp only [evValsGo] at h
    cases hs : evStepF i f s with
    | none => rw [hs] at h; cases h
    | some t =>
      rw [hs] at h
      have := evValsGo_length r t s' h
      unfold evStepF at hs
      split at hs
      · cases hs
      · split at hs
        · cases hs
        · simp only [Option.some.injEq] at hs
          subst hs
          simp only [List.length_append, List.length_singleton] at this
          simp only [List.length_cons]
          omega
def ev0 (k : Int) : Event := ⟨0, k, 0, 0, 0, 0, 0, 0, 0, 0, 0, 0, 0⟩
def refEvE (i : Event) : Int :=
  if ¬ (1 ≤ i.kind ∧ i.kind ≤ 5) then 41 else match evValsGo i (toldRF i.kind) (ev0 i.kind, []) with | none => 40 | some s => if s.1 = i then 0 else 40
def EvValuesPost (i : Event) (u : Value) (N : List Chunk) : Prop :=
  if refEvE i = 0 then ∃ s A c, (1 ≤ i.kind ∧ i.kind ≤ 5) ∧ evValsGo i (toldRF i.kind) (ev0 i.kind, []) = some s ∧ u = .tuple #[.slice A s.2.length c, .int .i64 0] ∧ N = [.own 24 1 (.slice A s.2.length c) s.2.length (s.2.flatMap uenc)]
  else u = .tuple #[.slice none 0 0, .int .i64 (refEvE i)]
theorem toldRF_small (k : Int) : (toldRF k).length ≤ 8 := by
  unfold toldRF
  repeat (first | exact Nat.le_of_ble_eq_true rfl | split)
theorem toldRF_pos {k : Int} (hk : 1 ≤ k ∧ k ≤ 5) : 1 ≤ (toldRF k).length := by
  have : k = 1 ∨ k = 2 ∨ k = 3 ∨ k = 4 ∨ k = 5 := by omega
  rcases this with rfl | rfl | rfl | rfl | rfl <;> exact Nat.le_of_ble_eq_true rfl
theorem toldRF_words (k : Int) : ∀ f ∈ toldRF k, 0 ≤ f.word ∧ f.word < 7 ∧ 0 ≤ f.shift := by
  have h : ((toldRF k).all fun f => decide (0 ≤ f.word ∧ f.word < 7 ∧ 0 ≤ f.shift)) = true := by
    unfold toldRF
    repeat (first | rfl | split)
  intro f hf
  exact of_decide_eq_true (List.all_eq_true.1 h f hf)
set_option maxHeartbeats 4000000 in
set_option maxRecDepth 100000 in
theorem refEvValues0 {w : World} {i : Event} (hk : ¬ (1 ≤ i.kind ∧ i.kind ≤ 5)) : Spec Go.Proofs.Tryz.prog 53 #[.agg i.enc.toArray] w [] (EvValuesPost i) := by
  refine Spec.enter (fn := Go.Proofs.Tryz.f53) (n := 70) [.agg i.enc.toArray] Go.Proofs.Tryz.func53 (by kernel_rfl) rfl Go.Proofs.Tryz.ntmps53 Go.Proofs.Tryz.results53 rfl (Own.nil _) ?_
  refine JC.rs ?_
  refine Seq.box (cs := [_, _, _, _, _, _, _, _, _, _, _, _, _]) (k := ?_); intro b1
  refine Seq.p rfl Ev.assign ?_
  refine Seq.p rfl Ev.assign ?_
  refine Seq.nil ?_
  refine JC.rs ?_
  refine Seq.p rfl (Ev.faB fd.api_Event_1) ?_
  refine Seq.p rfl (Ev.ldB sc.int) ?_
  refine Seq.callP rfl (fun w hw => refTold0 hk) ?_
  refine Seq.p rfl Ev.assign ?_
  refine Seq.nil ?_
  refine JC.seq ?_
  refine JC.rs ?_
  refine Seq.p rfl Ev.move ?_
  refine Seq.p rfl (Ev.lenSl sl.sl_bourseref04_field (hr := (RSl.r (RSl.empty RF.enc 4 w _)))) ?_
  refine Seq.p rfl Ev.eq ?_
  refine Seq.nil ?_
  first | refine JC.c (ht := fun c15 => ?_) (hf := fun c15 => ?_) | refine JC.cb (ht := fun c15 => ?_) (hf := fun c15 => ?_)
  · -- then_t15
    refine JC.rs ?_
    refine Seq.p rfl Ev.assign ?_
    refine Seq.p rfl Ev.assign ?_
    refine Seq.nil ?_
    refine JC.ret ?_
    -- return 0
    show retQ _ _ _ _ _ _ _ _
    refine ret2 (hp := Part.nil _) (hpost := ?_)
    have hE : refEvE i = 41 := if_pos hk
    show EvValuesPost _ _ _
    rw [EvValuesPost, if_neg (by rw [hE]; decide), hE]
  · -- else_t15
    exact absurd rfl c15
set_option maxHeartbeats 4000000 in
set_option maxRecDepth 100000 in
theorem refEvValues1 {w : World} {i : Event} (hk : 1 ≤ i.kind ∧ i.kind ≤ 5) : Spec Go.Proofs.Tryz.prog 53 #[.agg i.enc.toArray] w [] (EvValuesPost i) := by
  have hsm := toldRF_small i.kind
  have hpos := toldRF_pos hk
  have hE : refEvE i = match evValsGo i (toldRF i.kind) (ev0 i.kind, []) with | none => 40 | some s => if s.1 = i then 0 else 40 := if_neg (fun h => h hk)
  have hsp := @refTold
  generalize hl : toldRF i.kind = l at hsm hE hpos
  refine Spec.enter (fn := Go.Proofs.Tryz.f53) (n := 70) [.agg i.enc.toArray] Go.Proofs.Tryz.func53 (by kernel_rfl) rfl Go.Proofs.Tryz.ntmps53 Go.Proofs.Tryz.results53 rfl (Own.nil _) ?_
  refine JC.rs ?_
  refine Seq.box (cs := [_, _, _, _, _, _, _, _, _, _, _, _, _]) (k := ?_); intro b1
  refine Seq.p rfl Ev.assign ?_
  refine Seq.p rfl Ev.assign ?_
  refine Seq.nil ?_
  refine JC.rs ?_
  refine Seq.p rfl (Ev.faB fd.api_Event_1) ?_
  refine Seq.p rfl (Ev.ldB sc.int) ?_
  refine Seq.call rfl (fun w hw => hl ▸ hsp hk) (F := _) (by exact List.Perm.refl _) ?_
  rintro _ _ ⟨bl, rfl, rfl⟩
  refine Seq.p rfl Ev.assign ?_
  refine Seq.nil ?_
  refine JC.seq ?_
  refine JC.rs ?_
  refine Seq.p rfl Ev.move ?_
  refine Seq.p rfl (Ev.lenSl sl.sl_bourseref04_field (hr := RAt.box (enc := RF.enc) (sz := 4) (hs := by omega))) ?_
  refine Seq.p rfl Ev.eq ?_
  refine Seq.nil ?_
  first | refine JC.c (ht := fun c15 => ?_) (hf := fun c15 => ?_) | refine JC.cb (ht := fun c15 => ?_) (hf := fun c15 => ?_)
  · -- then_t15
    exfalso; omega
  · -- else_t15
    refine JC.skip ?_
    refine JC.rs ?_
    refine Seq.p rfl (Ev.faB fd.api_Event_1) ?_
    refine Seq.p rfl (Ev.ldB sc.int) ?_
    refine Seq.p rfl (Ev.buildN [_, _, _, _, _, _, _, _, _, _, _, _, _] pl.api_Event z.api_Event) ?_
    refine Seq.alloc (cs := [_, _, _, _, _, _, _, _, _, _, _, _, _]) (hz := z.api_Event) (k := ?_); intro b5
    refine Seq.storeN [_, _, _, _, _, _, _, _, _, _, _, _, _] sz.api_Event (k := ?_)
    refine Seq.nil ?_
    refine JC.rs ?_
    refine Seq.p rfl Ev.assign ?_
    refine Seq.re (fun w h => Upd.nilOwn h 24 1) ?_
    refine Seq.nil ?_
    refine JC.seq ?_
    refine JC.rs ?_
    refine Seq.p rfl Ev.assign ?_
    refine Seq.nil ?_
    refine JC.blk ?_
    refine JC.loop (α := Nat × Option Addr × Nat × Event × List Int) (I := fun s e1 H1 => Has [2, 3, 6, 7, 8, 9, 19, 20, 21, 22, 23, 24, 25, 26, 27, 28, 29, 30, 31, 32, 33, 34, 35, 36, 37, 38, 39, 40, 41, 42, 43, 44, 45, 46, 47, 48, 49, 50, 51, 52, 53, 54, 55, 56, 57, 58, 59, 60, 61, 62, 63, 64, 65] [(7, .int .i64 (s.1 : Int)), (6, .slice s.2.1 s.1 s.2.2.1)] _ e1 ∧ H1 = [.own 24 1 (.slice s.2.1 s.1 s.2.2.1) s.1 (s.2.2.2.2.flatMap uenc), .box b5 34 s.2.2.2.1.enc, .box bl 71 (l.flatMap RF.enc), .box b1 34 i.enc] ∧ s.1 ≤ l.length ∧ evValsGo i (l.take s.1) (ev0 i.kind, []) = some (s.2.2.2.1, s.2.2.2.2) ∧ s.2.2.2.2.length = s.1) (μ := fun s => l.length - s.1) (0, none, 0, ev0 i.kind, []) ⟨Has.mk Off.refl (allLook_cons (by repeat (first | exact Look.here | apply Look.there (hne := rfl) | exact Look.const | apply Look.mix rfl | exact Look.arg0 | apply Look.args | exact Look.func)) (allLook_cons (by repeat (first | exact Look.here | apply Look.there (hne := rfl) | exact Look.const | apply Look.mix rfl | exact Look.arg0 | apply Look.args | exact Look.func)) allLook_nil)), rfl, by omega, rfl, rfl⟩ ?_
    rintro ⟨k, A, cc, agn, out⟩ _ _ ⟨⟨ui, rfl⟩, rfl, hk2', hv, hol⟩; dsimp only [setL]; dsimp only at hk2' hv hol
    refine JC.seq ?_
    refine JC.rs ?_
    refine Seq.p rfl Ev.move ?_
    refine Seq.p rfl Ev.move ?_
    refine Seq.p rfl (Ev.lenSl sl.sl_bourseref04_field (hr := RAt.box (enc := RF.enc) (sz := 4) (hs := by omega))) ?_
    refine Seq.p rfl Ev.lt ?_
    refine Seq.nil ?_
    first | refine JC.c (ht := fun c22 => ?_) (hf := fun c22 => ?_) | refine JC.cb (ht := fun c22 => ?_) (hf := fun c22 => ?_)
    · -- then_t22
      have hk2 : k < l.length := by omega
      have hsn := evValsGo_snoc hk2 hv
      refine JC.skip ?_
      refine JC.seq ?_
      refine JC.blk ?_
      refine JC.qs mixed (by kernel_rfl) ?_
      refine Qui.p rfl (Ev.ldBA ag.api_Event) ?_
      refine Qui.p rfl Ev.move ?_
      refine Qui.p rfl Ev.move ?_
      refine Qui.p rfl (Ev.iaN sl.sl_bourseref04_field (hr := RAt.box (enc := RF.enc) (sz := 4) (hs := by omega))) ?_
      refine Qui.p rfl (Ev.fa fd.bourseref04_field_0) ?_
      refine Qui.p rfl (Ev.ldE sc.int (hr := RAt.box (enc := RF.enc) (sz := 4) (hs := by omega))) ?_
      refine Qui.call rfl (fun w hw => refEventValue) ?_
      refine Qui.p rfl Ev.move ?_
      refine Qui.p rfl Ev.extract ?_
      refine Qui.p rfl Ev.extract ?_
      refine Qui.p rfl Ev.assign ?_
      refine Qui.p rfl Ev.assign ?_
      refine Qui.nil ?_
      refine JC.seq ?_
      refine JC.rs ?_
      refine Seq.p rfl Ev.move ?_
      refine Seq.p rfl Ev.not ?_
      refine Seq.p rfl Ev.move ?_
      refine Seq.orG (D := [37, 38, 39, 40, 41, 42, 43, 44, 45, 46, 47, 48, 49, 50, 51, 52, 53]) (d := 37) (t := 53) (k := 16) (hn := fun h37 => ?_) (hx := ?_)
      · repeat (first | refine Seq.gn rfl rfl rfl rfl ?_ | refine Seq.gu rfl rfl rfl ?_)
        refine Seq.p rfl Ev.pickT ?_
        exact Seq.nil ⟨rfl, (by repeat (first | with_reducible exact Off.refl | refine Off.upd ?_ rfl | exact Off.mix | refine Off.mix2 ?_ rfl)), Look.here⟩
      apply Exists.intro
      refine ⟨fun h37 => ?_, fun u53 => ?_⟩
      · try simp only [decide_eq_true_eq, decide_eq_false_iff_not, Bool.and_eq_true, Bool.or_eq_true, Bool.not_eq_true', Bool.not_eq_false', Bool.or_eq_false_iff, Bool.and_eq_false_imp] at h37
        refine Seq.gy rfl rfl rfl ?_
        refine Seq.p rfl Ev.move ?_
        refine Seq.gy rfl rfl rfl ?_
        refine Seq.p rfl Ev.move ?_
        refine Seq.gy rfl rfl rfl ?_
        refine Seq.p rfl (Ev.iaN sl.sl_bourseref04_field (hr := RAt.box (enc := RF.enc) (sz := 4) (hs := by omega))) ?_
        refine Seq.gy rfl rfl rfl ?_
        refine Seq.p rfl (Ev.fa fd.bourseref04_field_1) ?_
        refine Seq.gy rfl rfl rfl ?_
        refine Seq.p rfl (Ev.ldE sc.uint64 (hr := RAt.box (enc := RF.enc) (sz := 4) (hs := by omega))) ?_
        refine Seq.gy rfl rfl rfl ?_
        refine Seq.p rfl Ev.gt ?_
        refine Seq.gy rfl rfl rfl ?_
        refine Seq.p rfl Ev.move ?_
        refine Seq.andG (D := [44, 45, 46, 47, 48, 49, 50, 51, 52]) (d := 44) (t := 52) (k := 8) (hn := fun h44 => ?_) (hx := ?_)
        · repeat (first | refine Seq.gn rfl rfl rfl rfl ?_ | refine Seq.gu rfl rfl rfl ?_)
          refine Seq.gy rfl rfl rfl ?_
          refine Seq.p rfl Ev.pickF ?_
          exact Seq.nil ⟨rfl, (by repeat (first | with_reducible exact Off.refl | refine Off.upd ?_ rfl | exact Off.mix | refine Off.mix2 ?_ rfl)), Look.here⟩
        apply Exists.intro
        refine ⟨fun h44 => ?_, fun u52 => ?_⟩
        · try simp only [decide_eq_true_eq, decide_eq_false_iff_not, Bool.and_eq_true, Bool.or_eq_true, Bool.not_eq_true', Bool.not_eq_false', Bool.or_eq_false_iff, Bool.and_eq_false_imp] at h44
          refine Seq.gy rfl rfl rfl ?_
          refine Seq.p rfl Ev.move ?_
          refine Seq.gy rfl rfl rfl ?_
          refine Seq.p rfl Ev.move ?_
          refine Seq.gy rfl rfl rfl ?_
          refine Seq.p rfl Ev.move ?_
          refine Seq.gy rfl rfl rfl ?_
          refine Seq.p rfl (Ev.iaN sl.sl_bourseref04_field (hr := RAt.box (enc := RF.enc) (sz := 4) (hs := by omega))) ?_
          refine Seq.gy rfl rfl rfl ?_
          refine Seq.p rfl (Ev.fa fd.bourseref04_field_1) ?_
          refine Seq.gy rfl rfl rfl ?_
          refine Seq.p rfl (Ev.ldE sc.uint64 (hr := RAt.box (enc := RF.enc) (sz := 4) (hs := by omega))) ?_
          refine Seq.gy rfl rfl rfl ?_
          refine Seq.p rfl Ev.gt ?_
          refine Seq.gy rfl rfl rfl ?_
          refine Seq.p rfl Ev.pickT ?_
          exact Seq.nil ⟨rfl, (by repeat (first | with_reducible exact Off.refl | refine Off.upd ?_ rfl | exact Off.mix | refine Off.mix2 ?_ rfl)), Look.here⟩
        refine Seq.p rfl Ev.pickF ?_
        exact Seq.nil ⟨rfl, (by repeat (first | with_reducible exact Off.refl | refine Off.upd ?_ rfl | exact Off.mix | refine Off.mix2 ?_ rfl)), Look.here⟩
      refine Seq.nil ?_
      first | refine JC.c (ht := fun c53 => ?_) (hf := fun c53 => ?_) | refine JC.cb (ht := fun c53 => ?_) (hf := fun c53 => ?_)
      · -- then_t53
        refine JC.rs ?_
        refine Seq.p rfl Ev.assign ?_
        refine Seq.p rfl Ev.assign ?_
        refine Seq.nil ?_
        refine JC.ret ?_
        -- return 0
        show retQ _ _ _ _ _ _ _ _
        refine ret2 (hp := Part.nil _) (hpost := ?_)
        have hst : evStepF i l[k]! (agn, out) = none := by
          rw [evStepF]
          rcases step_no c53 with h | h
          · rw [if_pos h]
          · by_cases h0 : (eventValueF i l[k]!.tag).2 = false
            · rw [if_pos h0]
            · rw [if_neg h0, if_pos h]
        rw [hst] at hsn
        have hE40 : refEvE i = 40 := by rw [hE, evValsGo_none hsn]
        show EvValuesPost _ _ _
        rw [EvValuesPost, if_neg (by rw [hE40]; decide), hE40]
      · -- else_t53
        refine JC.skip ?_
        refine JC.asE 1 mixed ?_
        refine Any.p 1 rfl (by kernel_rfl) (by kernel_rfl) (by kernel_rfl) rfl Ev.move ?_
        refine Any.p 2 rfl (by kernel_rfl) (by kernel_rfl) (by kernel_rfl) rfl Ev.move ?_
        refine Any.p 3 rfl (by kernel_rfl) (by kernel_rfl) (by kernel_rfl) rfl (Ev.iaN sl.sl_bourseref04_field (hr := RAt.box (enc := RF.enc) (sz := 4) (hs := by omega))) ?_
        refine Any.p 4 rfl (by kernel_rfl) (by kernel_rfl) (by kernel_rfl) rfl (Ev.fa fd.bourseref04_field_0) ?_
        refine Any.p 5 rfl (by kernel_rfl) (by kernel_rfl) (by kernel_rfl) rfl (Ev.ldE sc.int (hr := RAt.box (enc := RF.enc) (sz := 4) (hs := by omega))) ?_
        refine Any.p 6 rfl (by kernel_rfl) (by kernel_rfl) (by kernel_rfl) rfl Ev.move ?_
        refine Any.one 0 rfl (by kernel_rfl) ?_
        refine Seq.p rfl (Ev.ldBA ag.api_Event) ?_
        refine Seq.nil ⟨(by repeat (first | exact Part.refl _ | exact Part.nil _ | apply Part.here | apply Part.skip)), ?_⟩
        refine Any.call 7 rfl (by kernel_rfl) (by kernel_rfl) (by kernel_rfl) rfl (fun w hw => refWithEvent) ?_
        refine Any.one 8 rfl (by kernel_rfl) ?_
        refine Seq.storeN [_, _, _, _, _, _, _, _, _, _, _, _, _] sz.api_Event (k := ?_)
        refine Seq.nil ⟨(by repeat (first | exact Part.refl _ | exact Part.nil _ | apply Part.here | apply Part.skip)), ?_⟩
        refine Any.done (by kernel_rfl) ?_
        refine JC.reg ?_
        refine Seq.p rfl Ev.move ?_
        refine Seq.p rfl Ev.move ?_
        refine Seq.buildSlN [_] (hsl := sl.sl_uint64) (hz := z.uint64) (k := ?_); intro b64
        refine Seq.append (hsl := sl.sl_uint64) (he := el.uint64) (hsrc := (fun w' hw => Src.box (news := [.int .u64 (eventValueF i l[k]!.tag).1]) sl.sl_uint64 At.z hw rfl (by intro q u hu; cases q with | zero => exact hu | succ q => simp at hu))) (k := ?_); intro A65 c65
        refine Seq.p rfl Ev.assign ?_
        refine Seq.nil ?_
        refine JC.reg ?_
        refine Seq.p rfl Ev.move ?_
        refine Seq.p rfl (by first | exact Ev.inc | exact Ev.add) ?_
        refine Seq.p rfl Ev.assign ?_
        refine Seq.nil ?_
        have hst : evStepF i l[k]! (agn, out) = some (withEventF agn l[k]!.tag (eventValueF i l[k]!.tag).1, out ++ [(eventValueF i l[k]!.tag).1]) := by rw [evStepF, if_neg (step_yes c53).1, if_neg (step_yes c53).2]
        rw [hst] at hsn
        refine ⟨(k + 1, A65, c65, withEventF agn l[k]!.tag (eventValueF i l[k]!.tag).1, out ++ [(eventValueF i l[k]!.tag).1]), _, Part.skip (Part.refl _), ⟨Has.mk (by repeat (first | refine Off.upd ?_ rfl | exact Off.mix | refine Off.mix2 ?_ rfl | exact Off.refl)) (allLook_cons (by repeat (first | exact Look.here | apply Look.there (hne := rfl) | exact Look.const | apply Look.mix rfl | exact Look.arg0 | apply Look.args | exact Look.func)) (allLook_cons (by repeat (first | exact Look.here | apply Look.there (hne := rfl) | exact Look.const | apply Look.mix rfl | exact Look.arg0 | apply Look.args | exact Look.func)) allLook_nil)), by simp only [List.flatMap_append]; rfl, by show k + 1 ≤ l.length; omega, hsn, by simp [hol]⟩, by show l.length - (k + 1) < l.length - k; omega⟩
    · -- else_t22
      obtain rfl : k = l.length := by omega
      rw [List.take_length] at hv
      rw [hv] at hE
      dsimp only at hE
      refine JC.exit ?_ -- 0
      refine JC.seq ?_
      refine JC.rs ?_
      refine Seq.p rfl (Ev.ldBA ag.api_Event) ?_
      refine Seq.p rfl (Ev.ldBA ag.api_Event) ?_
      refine Seq.p rfl (Ev.neAg so.api_Event ag.api_Event gd.api_Event) ?_
      refine Seq.nil ?_
      first | refine JC.c (ht := fun c68 => ?_) (hf := fun c68 => ?_) | refine JC.cb (ht := fun c68 => ?_) (hf := fun c68 => ?_)
      · -- then_t68
        have c69 : (!eqL agn.enc i.enc) = true := c68
        rw [Event.eqL_enc] at c69
        have hne : ¬ agn = i := by simpa using c69
        rw [if_neg hne] at hE
        refine JC.rs ?_
        refine Seq.p rfl Ev.assign ?_
        refine Seq.p rfl Ev.assign ?_
        refine Seq.nil ?_
        refine JC.ret ?_
        -- return 1
        show retQ _ _ _ _ _ _ _ _
        refine ret2 (hp := Part.nil _) (hpost := ?_)
        show EvValuesPost _ _ _
        rw [EvValuesPost, if_neg (by rw [hE]; decide), hE]
      · -- else_t68
        have c69 : (!eqL agn.enc i.enc) = false := c68
        rw [Event.eqL_enc] at c69
        have heq : agn = i := of_ndec c69
        rw [if_pos heq] at hE
        refine JC.skip ?_
        refine JC.rs ?_
        refine Seq.p rfl Ev.move ?_
        refine Seq.p rfl Ev.assign ?_
        refine Seq.p rfl Ev.assign ?_
        refine Seq.nil ?_
        refine JC.ret ?_
        -- return 2
        show retQ _ _ _ _ _ _ _ _
        refine ret2 (hp := Part.here (Part.nil _)) (hpost := ?_)
        show EvValuesPost _ _ _
        rw [EvValuesPost, if_pos hE]
        refine ⟨(agn, out), A, cc, hk, by rw [hl]; exact hv, ?_, ?_⟩
        · show _ = Value.tuple #[.slice A out.length cc, _]; rw [hol]
        · show _ = [Chunk.own _ _ (.slice A out.length cc) out.length _]; rw [hol]
theorem refEvValues {w : World} {i : Event} : Spec Go.Proofs.Tryz.prog 53 #[.agg i.enc.toArray] w [] (EvValuesPost i) := by
  by_cases hk : 1 ≤ i.kind ∧ i.kind ≤ 5
  · exact refEvValues1 hk
  · exact refEvValues0 hk
def refPackEvF (i : Event) : Frame × Int :=
  if refEvE i = 0 then (match evValsGo i (toldRF i.kind) (ev0 i.kind, []) with | some s => laidF (64 + i.kind) (toldRF i.kind) s.2 | none => frame0, 0) else (frame0, refEvE i)
end Go.Rx
namespace Go.Rx
open Go Go.RowKit
set_option linter.unusedVariables false
set_option linter.unusedSimpArgs false
structure Event.Wf (e : Event) : Prop where
  seq : 0 ≤ e.seq ∧ e.seq ≤ 18446744073709551615
  id : 0 ≤ e.id ∧ e.id ≤ 18446744073709551615
  other : 0 ≤ e.other ∧ e.other ≤ 18446744073709551615
  target : 0 ≤ e.target ∧ e.target ≤ 18446744073709551615
  member : 0 ≤ e.member ∧ e.member ≤ 4294967295
  side : -9223372036854775808 ≤ e.side ∧ e.side ≤ 9223372036854775807
  type : -9223372036854775808 ≤ e.type ∧ e.type ≤ 9223372036854775807
  price : -9223372036854775808 ≤ e.price ∧ e.price ≤ 9223372036854775807
  qty : 0 ≤ e.qty ∧ e.qty ≤ 18446744073709551615
  peak : 0 ≤ e.peak ∧ e.peak ≤ 18446744073709551615
  reason : -9223372036854775808 ≤ e.reason ∧ e.reason ≤ 9223372036854775807
  code : -9223372036854775808 ≤ e.code ∧ e.code ≤ 9223372036854775807
theorem evStep_small {i : Event} {f : RF} {s : Event × List Int} {n : Int} (hn : -9223372036854775808 ≤ n ∧ n ≤ 9223372036854775807) (hv : eventValueF i f.tag = (n % 18446744073709551616, decide (0 ≤ n))) (hm : 0 < f.most ∧ f.most ≤ 4294967295) :
    evStepF i f s = if 0 ≤ n ∧ n ≤ f.most then some (withEventF s.1 f.tag (n % 18446744073709551616), s.2 ++ [n % 18446744073709551616]) else none := by
  unfold evStepF
  rw [hv]
  by_cases h0 : 0 ≤ n
  · have e1 : n % 18446744073709551616 = n := Int.emod_eq_of_lt h0 (by omega)
    simp only [e1, h0, decide_true, true_and]
    by_cases h1 : n ≤ f.most
    · rw [if_pos h1, if_neg (by simp), if_neg (by omega)]
    · rw [if_neg h1, if_neg (by simp), if_pos ⟨hm.1, by omega⟩]
  · rw [if_pos (by simp [h0]), if_neg (fun h => h0 h.1)]
theorem evStep_any {i : Event} {f : RF} {s : Event × List Int} {n : Int} (hv : eventValueF i f.tag = (n, true)) (hm : f.most = 0 ∨ n ≤ f.most) :
    evStepF i f s = some (withEventF s.1 f.tag n, s.2 ++ [n]) := by
  unfold evStepF
  rw [hv, if_neg (by simp), if_neg (by simp only; omega)]
theorem packEv_err {i : Event} {e : Int} (he : e ≠ 0) (h1 : toldEvE i = e) (h2 : refEvE i = e) : packEvF i = refPackEvF i := by
  rw [packEvF, refPackEvF, if_neg (by rw [h1]; exact he), if_neg (by rw [h2]; exact he), h1, h2]
theorem add64_add0 (a b : Int) : add64 (add64 a b) 0 = add64 a b := add64_zero' (add64_range a b)
theorem packEv_1 {e : Event} (hw : e.Wf) (h1 : e.kind = 1) : packEvF e = refPackEvF e := by
  have hF : evFieldsF e = some (evFields1 e) := by rw [evFieldsF, if_pos h1]
  have hR : refEvE e = match evValsGo e (toldRF 1) (ev0 1, []) with | none => 40 | some s => if s.1 = e then 0 else 40 := by
    rw [refEvE, if_neg (by omega), h1]
    all_goals rfl
  have hm := hw.member
  have em : e.member % 18446744073709551616 = e.member := Int.emod_eq_of_lt hm.1 (by omega)
  have em2 : e.member % 4294967296 = e.member := Int.emod_eq_of_lt hm.1 (by omega)
  have v0 : ∀ s, evStepF e ⟨34, 0, 0, 0⟩ s = _ := fun s => evStep_any (n := e.seq) rfl (.inl rfl)
  have v1 : ∀ s, evStepF e ⟨11, 0, 1, 0⟩ s = _ := fun s => evStep_any (n := e.id) rfl (.inl rfl)
  have v2 : ∀ s, evStepF e ⟨1, 4294967295, 3, 0⟩ s = _ := fun s => evStep_any (n := e.member % 18446744073709551616) rfl (.inr (by rw [em]; exact hm.2))
  have v3 : ∀ s, evStepF e ⟨54, 255, 3, 32⟩ s = _ := fun s => evStep_small hw.side rfl (by decide)
  have v4 : ∀ s, evStepF e ⟨40, 255, 3, 40⟩ s = _ := fun s => evStep_small hw.type rfl (by decide)
  have v5 : ∀ s, evStepF e ⟨44, 4294967295, 4, 0⟩ s = _ := fun s => evStep_small hw.price rfl (by decide)
  have v6 : ∀ s, evStepF e ⟨38, 0, 5, 0⟩ s = _ := fun s => evStep_any (n := e.qty) rfl (.inl rfl)
  have v7 : ∀ s, evStepF e ⟨210, 0, 6, 0⟩ s = _ := fun s => evStep_any (n := e.peak) rfl (.inl rfl)
  have hV : evValsGo e (toldRF 1) (ev0 1, []) = evValsGo e [⟨34, 0, 0, 0⟩, ⟨11, 0, 1, 0⟩, ⟨1, 4294967295, 3, 0⟩, ⟨54, 255, 3, 32⟩, ⟨40, 255, 3, 40⟩, ⟨44, 4294967295, 4, 0⟩, ⟨38, 0, 5, 0⟩, ⟨210, 0, 6, 0⟩] (ev0 1, []) := rfl
  by_cases hs : (0 ≤ e.side ∧ e.side ≤ 255) ∧ (0 ≤ e.type ∧ e.type ≤ 255) ∧ (0 ≤ e.price ∧ e.price ≤ 4294967295)
  · obtain ⟨b0, b1, b2⟩ := hs
    have m0 : e.side % 18446744073709551616 = e.side := Int.emod_eq_of_lt b0.1 (by omega)
    have f0 : s64 e.side = e.side := s64_in (by omega)
    have m1 : e.type % 18446744073709551616 = e.type := Int.emod_eq_of_lt b1.1 (by omega)
    have f1 : s64 e.type = e.type := s64_in (by omega)
    have m2 : e.price % 18446744073709551616 = e.price := Int.emod_eq_of_lt b2.1 (by omega)
    have f2 : s64 e.price = e.price := s64_in (by omega)
    simp only [evValsGo, v0, v1, v2, v3, v4, v5, v6, v7, if_pos b0, if_pos b1, if_pos b2, List.nil_append, List.cons_append] at hV
    have hs1 : evValsGo e (toldRF 1) (ev0 1, []) = some (⟨e.seq, 1, e.id, 0, 0, e.member, e.side, e.type, e.price, e.qty, e.peak, 0, 0⟩, [e.seq, e.id, e.member, e.side, e.type, e.price, e.qty, e.peak]) := by
      rw [hV]
      simp [withEventF, ev0, m0, f0, m1, f1, m2, f2, em, em2]
    have hI : eventOfF 1 (numsF (evFields1 e)) = ⟨e.seq, 1, e.id, 0, 0, e.member, e.side, e.type, e.price, e.qty, e.peak, 0, 0⟩ := by
      simp [evFields1, wholeF, upToF, numsF, iput, eventOfF, iget, m0, f0, m1, f1, m2, f2, em, em2]
      all_goals first | rfl | exact ⟨rfl, rfl⟩ | exact ⟨rfl, rfl, rfl⟩ | exact ⟨rfl, rfl, rfl, rfl⟩ | exact ⟨rfl, rfl, rfl, rfl, rfl⟩
    have hA : ((evFields1 e).all (·.fits)) = true := by
      simp [evFields1, wholeF, upToF, b0, b1, b2]
    by_cases hX : (⟨e.seq, 1, e.id, 0, 0, e.member, e.side, e.type, e.price, e.qty, e.peak, 0, 0⟩ : Event) = e
    · have t0 : toldEvE e = 0 := by
        rw [toldEvE, hF]
        exact if_pos ⟨hA, by rw [h1, hI]; exact hX⟩
      have r0 : refEvE e = 0 := by
        rw [hR, hs1]
        exact if_pos hX
      rw [packEvF, refPackEvF, if_pos t0, if_pos r0, hF, h1, hs1]
      have x0 : up e.seq 0 = e.seq := up_zero hw.seq
      have y0 : add64 0 e.seq = e.seq := add64_zero hw.seq
      have z0 : add64 e.seq 0 = e.seq := add64_zero' hw.seq
      have x1 : up e.id 0 = e.id := up_zero hw.id
      have y1 : add64 0 e.id = e.id := add64_zero hw.id
      have z1 : add64 e.id 0 = e.id := add64_zero' hw.id
      have x2 : up e.member 0 = e.member := up_zero (by omega)
      have y2 : add64 0 e.member = e.member := add64_zero (by omega)
      have z2 : add64 e.member 0 = e.member := add64_zero' (by omega)
      have x3 : up e.side 0 = e.side := up_zero (by omega)
      have y3 : add64 0 e.side = e.side := add64_zero (by omega)
      have z3 : add64 e.side 0 = e.side := add64_zero' (by omega)
      have x4 : up e.type 0 = e.type := up_zero (by omega)
      have y4 : add64 0 e.type = e.type := add64_zero (by omega)
      have z4 : add64 e.type 0 = e.type := add64_zero' (by omega)
      have x5 : up e.price 0 = e.price := up_zero (by omega)
      have y5 : add64 0 e.price = e.price := add64_zero (by omega)
      have z5 : add64 e.price 0 = e.price := add64_zero' (by omega)
      have x6 : up e.qty 0 = e.qty := up_zero hw.qty
      have y6 : add64 0 e.qty = e.qty := add64_zero hw.qty
      have z6 : add64 e.qty 0 = e.qty := add64_zero' hw.qty
      have x7 : up e.peak 0 = e.peak := up_zero hw.peak
      have y7 : add64 0 e.peak = e.peak := add64_zero hw.peak
      have z7 : add64 e.peak 0 = e.peak := add64_zero' hw.peak
      have zz : add64 0 0 = 0 := rfl
      simp [evFrameF, laidF, toldRF, laidGo, laidStep, evFields1, wholeF, upToF, numsF, iput, iget, up_none, add64_add0, zz, m0, f0, m1, f1, m2, f2, em, em2, x0, y0, z0, x1, y1, z1, x2, y2, z2, x3, y3, z3, x4, y4, z4, x5, y5, z5, x6, y6, z6, x7, y7, z7]
    · refine packEv_err (e := 40) (by decide) ?_ ?_
      · rw [toldEvE, hF]
        exact if_neg (fun h => hX (by rw [← hI, ← h1]; exact h.2))
      · rw [hR, hs1]
        exact if_neg hX
  · refine packEv_err (e := 40) (by decide) ?_ ?_
    · rw [toldEvE, hF]
      refine if_neg (fun h => hs ?_)
      have := h.1
      simpa [evFields1, wholeF, upToF, and_assoc] using this
    · rw [hR, hV]
      simp only [evValsGo, v0, v1, v2, v3, v4, v5, v6, v7]
      by_cases b0 : 0 ≤ e.side ∧ e.side ≤ 255
      · skip
        by_cases b1 : 0 ≤ e.type ∧ e.type ≤ 255
        · skip
          have b2 : ¬ (0 ≤ e.price ∧ e.price ≤ 4294967295) := fun b2 => hs ⟨b0, b1, b2⟩
          simp only [if_pos b0, if_pos b1, if_neg b2]
        · simp only [if_pos b0, if_neg b1]
      · simp only [if_neg b0]
theorem packEv_2 {e : Event} (hw : e.Wf) (h1 : e.kind = 2) : packEvF e = refPackEvF e := by
  have hF : evFieldsF e = some (evFields2 e) := by rw [evFieldsF, if_neg (by omega), if_pos h1]
  have hR : refEvE e = match evValsGo e (toldRF 2) (ev0 2, []) with | none => 40 | some s => if s.1 = e then 0 else 40 := by
    rw [refEvE, if_neg (by omega), h1]
    all_goals rfl
  have hm := hw.member
  have em : e.member % 18446744073709551616 = e.member := Int.emod_eq_of_lt hm.1 (by omega)
  have em2 : e.member % 4294967296 = e.member := Int.emod_eq_of_lt hm.1 (by omega)
  have v0 : ∀ s, evStepF e ⟨34, 0, 0, 0⟩ s = _ := fun s => evStep_any (n := e.seq) rfl (.inl rfl)
  have v1 : ∀ s, evStepF e ⟨11, 0, 1, 0⟩ s = _ := fun s => evStep_any (n := e.id) rfl (.inl rfl)
  have v2 : ∀ s, evStepF e ⟨41, 0, 2, 0⟩ s = _ := fun s => evStep_any (n := e.target) rfl (.inl rfl)
  have v3 : ∀ s, evStepF e ⟨103, 4294967295, 4, 32⟩ s = _ := fun s => evStep_small hw.code rfl (by decide)
  have hV : evValsGo e (toldRF 2) (ev0 2, []) = evValsGo e [⟨34, 0, 0, 0⟩, ⟨11, 0, 1, 0⟩, ⟨41, 0, 2, 0⟩, ⟨103, 4294967295, 4, 32⟩] (ev0 2, []) := rfl
  by_cases hs : (0 ≤ e.code ∧ e.code ≤ 4294967295)
  · have b0 := hs
    have m0 : e.code % 18446744073709551616 = e.code := Int.emod_eq_of_lt b0.1 (by omega)
    have f0 : s64 e.code = e.code := s64_in (by omega)
    simp only [evValsGo, v0, v1, v2, v3, if_pos b0, List.nil_append, List.cons_append] at hV
    have hs1 : evValsGo e (toldRF 2) (ev0 2, []) = some (⟨e.seq, 2, e.id, 0, e.target, 0, 0, 0, 0, 0, 0, 0, e.code⟩, [e.seq, e.id, e.target, e.code]) := by
      rw [hV]
      simp [withEventF, ev0, m0, f0, em, em2]
    have hI : eventOfF 2 (numsF (evFields2 e)) = ⟨e.seq, 2, e.id, 0, e.target, 0, 0, 0, 0, 0, 0, 0, e.code⟩ := by
      simp [evFields2, wholeF, upToF, numsF, iput, eventOfF, iget, m0, f0, em, em2]
      all_goals first | rfl | exact ⟨rfl, rfl⟩ | exact ⟨rfl, rfl, rfl⟩ | exact ⟨rfl, rfl, rfl, rfl⟩ | exact ⟨rfl, rfl, rfl, rfl, rfl⟩
    have hA : ((evFields2 e).all (·.fits)) = true := by
      simp [evFields2, wholeF, upToF, b0]
    by_cases hX : (⟨e.seq, 2, e.id, 0, e.target, 0, 0, 0, 0, 0, 0, 0, e.code⟩ : Event) = e
    · have t0 : toldEvE e = 0 := by
        rw [toldEvE, hF]
        exact if_pos ⟨hA, by rw [h1, hI]; exact hX⟩
      have r0 : refEvE e = 0 := by
        rw [hR, hs1]
        exact if_pos hX
      rw [packEvF, refPackEvF, if_pos t0, if_pos r0, hF, h1, hs1]
      have x0 : up e.seq 0 = e.seq := up_zero hw.seq
      have y0 : add64 0 e.seq = e.seq := add64_zero hw.seq
      have z0 : add64 e.seq 0 = e.seq := add64_zero' hw.seq
      have x1 : up e.id 0 = e.id := up_zero hw.id
      have y1 : add64 0 e.id = e.id := add64_zero hw.id
      have z1 : add64 e.id 0 = e.id := add64_zero' hw.id
      have x2 : up e.target 0 = e.target := up_zero hw.target
      have y2 : add64 0 e.target = e.target := add64_zero hw.target
      have z2 : add64 e.target 0 = e.target := add64_zero' hw.target
      have x3 : up e.code 0 = e.code := up_zero (by omega)
      have y3 : add64 0 e.code = e.code := add64_zero (by omega)
      have z3 : add64 e.code 0 = e.code := add64_zero' (by omega)
      have zz : add64 0 0 = 0 := rfl
      simp [evFrameF, laidF, toldRF, laidGo, laidStep, evFields2, wholeF, upToF, numsF, iput, iget, up_none, add64_add0, zz, m0, f0, em, em2, x0, y0, z0, x1, y1, z1, x2, y2, z2, x3, y3, z3]
    · refine packEv_err (e := 40) (by decide) ?_ ?_
      · rw [toldEvE, hF]
        exact if_neg (fun h => hX (by rw [← hI, ← h1]; exact h.2))
      · rw [hR, hs1]
        exact if_neg hX
  · refine packEv_err (e := 40) (by decide) ?_ ?_
    · rw [toldEvE, hF]
      refine if_neg (fun h => hs ?_)
      have := h.1
      simpa [evFields2, wholeF, upToF, and_assoc] using this
    · rw [hR, hV]
      simp only [evValsGo, v0, v1, v2, v3]
      have b0 : ¬ (0 ≤ e.code ∧ e.code ≤ 4294967295) := fun b0 => hs b0
      simp only [if_neg b0]
theorem packEv_3 {e : Event} (hw : e.Wf) (h1 : e.kind = 3) : packEvF e = refPackEvF e := by
  have hF : evFieldsF e = some (evFields3 e) := by rw [evFieldsF, if_neg (by omega), if_neg (by omega), if_pos h1]
  have hR : refEvE e = match evValsGo e (toldRF 3) (ev0 3, []) with | none => 40 | some s => if s.1 = e then 0 else 40 := by
    rw [refEvE, if_neg (by omega), h1]
    all_goals rfl
  have hm := hw.member
  have em : e.member % 18446744073709551616 = e.member := Int.emod_eq_of_lt hm.1 (by omega)
  have em2 : e.member % 4294967296 = e.member := Int.emod_eq_of_lt hm.1 (by omega)
  have v0 : ∀ s, evStepF e ⟨34, 0, 0, 0⟩ s = _ := fun s => evStep_any (n := e.seq) rfl (.inl rfl)
  have v1 : ∀ s, evStepF e ⟨11, 0, 1, 0⟩ s = _ := fun s => evStep_any (n := e.id) rfl (.inl rfl)
  have v2 : ∀ s, evStepF e ⟨37, 0, 2, 0⟩ s = _ := fun s => evStep_any (n := e.other) rfl (.inl rfl)
  have v3 : ∀ s, evStepF e ⟨54, 255, 3, 32⟩ s = _ := fun s => evStep_small hw.side rfl (by decide)
  have v4 : ∀ s, evStepF e ⟨44, 4294967295, 4, 0⟩ s = _ := fun s => evStep_small hw.price rfl (by decide)
  have v5 : ∀ s, evStepF e ⟨38, 0, 5, 0⟩ s = _ := fun s => evStep_any (n := e.qty) rfl (.inl rfl)
  have hV : evValsGo e (toldRF 3) (ev0 3, []) = evValsGo e [⟨34, 0, 0, 0⟩, ⟨11, 0, 1, 0⟩, ⟨37, 0, 2, 0⟩, ⟨54, 255, 3, 32⟩, ⟨44, 4294967295, 4, 0⟩, ⟨38, 0, 5, 0⟩] (ev0 3, []) := rfl
  by_cases hs : (0 ≤ e.side ∧ e.side ≤ 255) ∧ (0 ≤ e.price ∧ e.price ≤ 4294967295)
  · obtain ⟨b0, b1⟩ := hs
    have m0 : e.side % 18446744073709551616 = e.side := Int.emod_eq_of_lt b0.1 (by omega)
    have f0 : s64 e.side = e.side := s64_in (by omega)
    have m1 : e.price % 18446744073709551616 = e.price := Int.emod_eq_of_lt b1.1 (by omega)
    have f1 : s64 e.price = e.price := s64_in (by omega)
    simp only [evValsGo, v0, v1, v2, v3, v4, v5, if_pos b0, if_pos b1, List.nil_append, List.cons_append] at hV
    have hs1 : evValsGo e (toldRF 3) (ev0 3, []) = some (⟨e.seq, 3, e.id, e.other, 0, 0, e.side, 0, e.price, e.qty, 0, 0, 0⟩, [e.seq, e.id, e.other, e.side, e.price, e.qty]) := by
      rw [hV]
      simp [withEventF, ev0, m0, f0, m1, f1, em, em2]
    have hI : eventOfF 3 (numsF (evFields3 e)) = ⟨e.seq, 3, e.id, e.other, 0, 0, e.side, 0, e.price, e.qty, 0, 0, 0⟩ := by
      simp [evFields3, wholeF, upToF, numsF, iput, eventOfF, iget, m0, f0, m1, f1, em, em2]
      all_goals first | rfl | exact ⟨rfl, rfl⟩ | exact ⟨rfl, rfl, rfl⟩ | exact ⟨rfl, rfl, rfl, rfl⟩ | exact ⟨rfl, rfl, rfl, rfl, rfl⟩
    have hA : ((evFields3 e).all (·.fits)) = true := by
      simp [evFields3, wholeF, upToF, b0, b1]
    by_cases hX : (⟨e.seq, 3, e.id, e.other, 0, 0, e.side, 0, e.price, e.qty, 0, 0, 0⟩ : Event) = e
    · have t0 : toldEvE e = 0 := by
        rw [toldEvE, hF]
        exact if_pos ⟨hA, by rw [h1, hI]; exact hX⟩
      have r0 : refEvE e = 0 := by
        rw [hR, hs1]
        exact if_pos hX
      rw [packEvF, refPackEvF, if_pos t0, if_pos r0, hF, h1, hs1]
      have x0 : up e.seq 0 = e.seq := up_zero hw.seq
      have y0 : add64 0 e.seq = e.seq := add64_zero hw.seq
      have z0 : add64 e.seq 0 = e.seq := add64_zero' hw.seq
      have x1 : up e.id 0 = e.id := up_zero hw.id
      have y1 : add64 0 e.id = e.id := add64_zero hw.id
      have z1 : add64 e.id 0 = e.id := add64_zero' hw.id
      have x2 : up e.other 0 = e.other := up_zero hw.other
      have y2 : add64 0 e.other = e.other := add64_zero hw.other
      have z2 : add64 e.other 0 = e.other := add64_zero' hw.other
      have x3 : up e.side 0 = e.side := up_zero (by omega)
      have y3 : add64 0 e.side = e.side := add64_zero (by omega)
      have z3 : add64 e.side 0 = e.side := add64_zero' (by omega)
      have x4 : up e.price 0 = e.price := up_zero (by omega)
      have y4 : add64 0 e.price = e.price := add64_zero (by omega)
      have z4 : add64 e.price 0 = e.price := add64_zero' (by omega)
      have x5 : up e.qty 0 = e.qty := up_zero hw.qty
      have y5 : add64 0 e.qty = e.qty := add64_zero hw.qty
      have z5 : add64 e.qty 0 = e.qty := add64_zero' hw.qty
      have zz : add64 0 0 = 0 := rfl
      simp [evFrameF, laidF, toldRF, laidGo, laidStep, evFields3, wholeF, upToF, numsF, iput, iget, up_none, add64_add0, zz, m0, f0, m1, f1, em, em2, x0, y0, z0, x1, y1, z1, x2, y2, z2, x3, y3, z3, x4, y4, z4, x5, y5, z5]
    · refine packEv_err (e := 40) (by decide) ?_ ?_
      · rw [toldEvE, hF]
        exact if_neg (fun h => hX (by rw [← hI, ← h1]; exact h.2))
      · rw [hR, hs1]
        exact if_neg hX
  · refine packEv_err (e := 40) (by decide) ?_ ?_
    · rw [toldEvE, hF]
      refine if_neg (fun h => hs ?_)
      have := h.1
      simpa [evFields3, wholeF, upToF, and_assoc] using this
    · rw [hR, hV]
      simp only [evValsGo, v0, v1, v2, v3, v4, v5]
      by_cases b0 : 0 ≤ e.side ∧ e.side ≤ 255
      · skip
        have b1 : ¬ (0 ≤ e.price ∧ e.price ≤ 4294967295) := fun b1 => hs ⟨b0, b1⟩
        simp only [if_pos b0, if_neg b1]
      · simp only [if_neg b0]
theorem packEv_4 {e : Event} (hw : e.Wf) (h1 : e.kind = 4) : packEvF e = refPackEvF e := by
  have hF : evFieldsF e = some (evFields4 e) := by rw [evFieldsF, if_neg (by omega), if_neg (by omega), if_neg (by omega), if_pos h1]
  have hR : refEvE e = match evValsGo e (toldRF 4) (ev0 4, []) with | none => 40 | some s => if s.1 = e then 0 else 40 := by
    rw [refEvE, if_neg (by omega), h1]
    all_goals rfl
  have hm := hw.member
  have em : e.member % 18446744073709551616 = e.member := Int.emod_eq_of_lt hm.1 (by omega)
  have em2 : e.member % 4294967296 = e.member := Int.emod_eq_of_lt hm.1 (by omega)
  have v0 : ∀ s, evStepF e ⟨34, 0, 0, 0⟩ s = _ := fun s => evStep_any (n := e.seq) rfl (.inl rfl)
  have v1 : ∀ s, evStepF e ⟨11, 0, 1, 0⟩ s = _ := fun s => evStep_any (n := e.id) rfl (.inl rfl)
  have v2 : ∀ s, evStepF e ⟨38, 0, 5, 0⟩ s = _ := fun s => evStep_any (n := e.qty) rfl (.inl rfl)
  have v3 : ∀ s, evStepF e ⟨378, 255, 3, 48⟩ s = _ := fun s => evStep_small hw.reason rfl (by decide)
  have hV : evValsGo e (toldRF 4) (ev0 4, []) = evValsGo e [⟨34, 0, 0, 0⟩, ⟨11, 0, 1, 0⟩, ⟨38, 0, 5, 0⟩, ⟨378, 255, 3, 48⟩] (ev0 4, []) := rfl
  by_cases hs : (0 ≤ e.reason ∧ e.reason ≤ 255)
  · have b0 := hs
    have m0 : e.reason % 18446744073709551616 = e.reason := Int.emod_eq_of_lt b0.1 (by omega)
    have f0 : s64 e.reason = e.reason := s64_in (by omega)
    simp only [evValsGo, v0, v1, v2, v3, if_pos b0, List.nil_append, List.cons_append] at hV
    have hs1 : evValsGo e (toldRF 4) (ev0 4, []) = some (⟨e.seq, 4, e.id, 0, 0, 0, 0, 0, 0, e.qty, 0, e.reason, 0⟩, [e.seq, e.id, e.qty, e.reason]) := by
      rw [hV]
      simp [withEventF, ev0, m0, f0, em, em2]
    have hI : eventOfF 4 (numsF (evFields4 e)) = ⟨e.seq, 4, e.id, 0, 0, 0, 0, 0, 0, e.qty, 0, e.reason, 0⟩ := by
      simp [evFields4, wholeF, upToF, numsF, iput, eventOfF, iget, m0, f0, em, em2]
      all_goals first | rfl | exact ⟨rfl, rfl⟩ | exact ⟨rfl, rfl, rfl⟩ | exact ⟨rfl, rfl, rfl, rfl⟩ | exact ⟨rfl, rfl, rfl, rfl, rfl⟩
    have hA : ((evFields4 e).all (·.fits)) = true := by
      simp [evFields4, wholeF, upToF, b0]
    by_cases hX : (⟨e.seq, 4, e.id, 0, 0, 0, 0, 0, 0, e.qty, 0, e.reason, 0⟩ : Event) = e
    · have t0 : toldEvE e = 0 := by
        rw [toldEvE, hF]
        exact if_pos ⟨hA, by rw [h1, hI]; exact hX⟩
      have r0 : refEvE e = 0 := by
        rw [hR, hs1]
        exact if_pos hX
      rw [packEvF, refPackEvF, if_pos t0, if_pos r0, hF, h1, hs1]
      have x0 : up e.seq 0 = e.seq := up_zero hw.seq
      have y0 : add64 0 e.seq = e.seq := add64_zero hw.seq
      have z0 : add64 e.seq 0 = e.seq := add64_zero' hw.seq
      have x1 : up e.id 0 = e.id := up_zero hw.id
      have y1 : add64 0 e.id = e.id := add64_zero hw.id
      have z1 : add64 e.id 0 = e.id := add64_zero' hw.id
      have x2 : up e.qty 0 = e.qty := up_zero hw.qty
      have y2 : add64 0 e.qty = e.qty := add64_zero hw.qty
      have z2 : add64 e.qty 0 = e.qty := add64_zero' hw.qty
      have x3 : up e.reason 0 = e.reason := up_zero (by omega)
      have y3 : add64 0 e.reason = e.reason := add64_zero (by omega)
      have z3 : add64 e.reason 0 = e.reason := add64_zero' (by omega)
      have zz : add64 0 0 = 0 := rfl
      simp [evFrameF, laidF, toldRF, laidGo, laidStep, evFields4, wholeF, upToF, numsF, iput, iget, up_none, add64_add0, zz, m0, f0, em, em2, x0, y0, z0, x1, y1, z1, x2, y2, z2, x3, y3, z3]
    · refine packEv_err (e := 40) (by decide) ?_ ?_
      · rw [toldEvE, hF]
        exact if_neg (fun h => hX (by rw [← hI, ← h1]; exact h.2))
      · rw [hR, hs1]
        exact if_neg hX
  · refine packEv_err (e := 40) (by decide) ?_ ?_
    · rw [toldEvE, hF]
      refine if_neg (fun h => hs ?_)
      have := h.1
      simpa [evFields4, wholeF, upToF, and_assoc] using this
    · rw [hR, hV]
      simp only [evValsGo, v0, v1, v2, v3]
      have b0 : ¬ (0 ≤ e.reason ∧ e.reason ≤ 255) := fun b0 => hs b0
      simp only [if_neg b0]
theorem packEv_5 {e : Event} (hw : e.Wf) (h1 : e.kind = 5) : packEvF e = refPackEvF e := by
  have hF : evFieldsF e = some (evFields5 e) := by rw [evFieldsF, if_neg (by omega), if_neg (by omega), if_neg (by omega), if_neg (by omega), if_pos h1]
  have hR : refEvE e = match evValsGo e (toldRF 5) (ev0 5, []) with | none => 40 | some s => if s.1 = e then 0 else 40 := by
    rw [refEvE, if_neg (by omega), h1]
    all_goals rfl
  have hm := hw.member
  have em : e.member % 18446744073709551616 = e.member := Int.emod_eq_of_lt hm.1 (by omega)
  have em2 : e.member % 4294967296 = e.member := Int.emod_eq_of_lt hm.1 (by omega)
  have v0 : ∀ s, evStepF e ⟨34, 0, 0, 0⟩ s = _ := fun s => evStep_any (n := e.seq) rfl (.inl rfl)
  have v1 : ∀ s, evStepF e ⟨11, 0, 1, 0⟩ s = _ := fun s => evStep_any (n := e.id) rfl (.inl rfl)
  have v2 : ∀ s, evStepF e ⟨44, 4294967295, 4, 0⟩ s = _ := fun s => evStep_small hw.price rfl (by decide)
  have v3 : ∀ s, evStepF e ⟨38, 0, 5, 0⟩ s = _ := fun s => evStep_any (n := e.qty) rfl (.inl rfl)
  have hV : evValsGo e (toldRF 5) (ev0 5, []) = evValsGo e [⟨34, 0, 0, 0⟩, ⟨11, 0, 1, 0⟩, ⟨44, 4294967295, 4, 0⟩, ⟨38, 0, 5, 0⟩] (ev0 5, []) := rfl
  by_cases hs : (0 ≤ e.price ∧ e.price ≤ 4294967295)
  · have b0 := hs
    have m0 : e.price % 18446744073709551616 = e.price := Int.emod_eq_of_lt b0.1 (by omega)
    have f0 : s64 e.price = e.price := s64_in (by omega)
    simp only [evValsGo, v0, v1, v2, v3, if_pos b0, List.nil_append, List.cons_append] at hV
    have hs1 : evValsGo e (toldRF 5) (ev0 5, []) = some (⟨e.seq, 5, e.id, 0, 0, 0, 0, 0, e.price, e.qty, 0, 0, 0⟩, [e.seq, e.id, e.price, e.qty]) := by
      rw [hV]
      simp [withEventF, ev0, m0, f0, em, em2]
    have hI : eventOfF 5 (numsF (evFields5 e)) = ⟨e.seq, 5, e.id, 0, 0, 0, 0, 0, e.price, e.qty, 0, 0, 0⟩ := by
      simp [evFields5, wholeF, upToF, numsF, iput, eventOfF, iget, m0, f0, em, em2]
      all_goals first | rfl | exact ⟨rfl, rfl⟩ | exact ⟨rfl, rfl, rfl⟩ | exact ⟨rfl, rfl, rfl, rfl⟩ | exact ⟨rfl, rfl, rfl, rfl, rfl⟩
    have hA : ((evFields5 e).all (·.fits)) = true := by
      simp [evFields5, wholeF, upToF, b0]
    by_cases hX : (⟨e.seq, 5, e.id, 0, 0, 0, 0, 0, e.price, e.qty, 0, 0, 0⟩ : Event) = e
    · have t0 : toldEvE e = 0 := by
        rw [toldEvE, hF]
        exact if_pos ⟨hA, by rw [h1, hI]; exact hX⟩
      have r0 : refEvE e = 0 := by
        rw [hR, hs1]
        exact if_pos hX
      rw [packEvF, refPackEvF, if_pos t0, if_pos r0, hF, h1, hs1]
      have x0 : up e.seq 0 = e.seq := up_zero hw.seq
      have y0 : add64 0 e.seq = e.seq := add64_zero hw.seq
      have z0 : add64 e.seq 0 = e.seq := add64_zero' hw.seq
      have x1 : up e.id 0 = e.id := up_zero hw.id
      have y1 : add64 0 e.id = e.id := add64_zero hw.id
      have z1 : add64 e.id 0 = e.id := add64_zero' hw.id
      have x2 : up e.price 0 = e.price := up_zero (by omega)
      have y2 : add64 0 e.price = e.price := add64_zero (by omega)
      have z2 : add64 e.price 0 = e.price := add64_zero' (by omega)
      have x3 : up e.qty 0 = e.qty := up_zero hw.qty
      have y3 : add64 0 e.qty = e.qty := add64_zero hw.qty
      have z3 : add64 e.qty 0 = e.qty := add64_zero' hw.qty
      have zz : add64 0 0 = 0 := rfl
      simp [evFrameF, laidF, toldRF, laidGo, laidStep, evFields5, wholeF, upToF, numsF, iput, iget, up_none, add64_add0, zz, m0, f0, em, em2, x0, y0, z0, x1, y1, z1, x2, y2, z2, x3, y3, z3]
    · refine packEv_err (e := 40) (by decide) ?_ ?_
      · rw [toldEvE, hF]
        exact if_neg (fun h => hX (by rw [← hI, ← h1]; exact h.2))
      · rw [hR, hs1]
        exact if_neg hX
  · refine packEv_err (e := 40) (by decide) ?_ ?_
    · rw [toldEvE, hF]
      refine if_neg (fun h => hs ?_)
      have := h.1
      simpa [evFields5, wholeF, upToF, and_assoc] using this
    · rw [hR, hV]
      simp only [evValsGo, v0, v1, v2, v3]
      have b0 : ¬ (0 ≤ e.price ∧ e.price ≤ 4294967295) := fun b0 => hs b0
      simp only [if_neg b0]
theorem packEv_none {e : Event} (h : ¬ (1 ≤ e.kind ∧ e.kind ≤ 5)) : packEvF e = refPackEvF e := by
  have hF : evFieldsF e = none := by rw [evFieldsF, if_neg (by omega), if_neg (by omega), if_neg (by omega), if_neg (by omega), if_neg (by omega)]
  refine packEv_err (e := 41) (by decide) ?_ ?_
  · rw [toldEvE, hF]
  · exact if_pos h
theorem packEv_eq {e : Event} (hw : e.Wf) : packEvF e = refPackEvF e := by
  by_cases h : 1 ≤ e.kind ∧ e.kind ≤ 5
  · have : e.kind = 1 ∨ e.kind = 2 ∨ e.kind = 3 ∨ e.kind = 4 ∨ e.kind = 5 := by omega
    rcases this with h | h | h | h | h
    · exact packEv_1 hw h
    · exact packEv_2 hw h
    · exact packEv_3 hw h
    · exact packEv_4 hw h
    · exact packEv_5 hw h
  · exact packEv_none h
end Go.Rx
namespace Go.Rx
open Go Go.RowKit
set_option linter.unusedVariables false
set_option linter.unusedSimpArgs false
def andU (a b : Int) : Int := IntKind.u64.wrap ((BitVec.ofInt IntKind.u64.bits a &&& BitVec.ofInt IntKind.u64.bits b).toNat : Nat)
def down (a n : Int) : Int := a / 2 ^ (min n.toNat IntKind.u64.bits)
def someF (fs : List Fld) (m : List (Int × Int)) : List (Int × Int) := fs.foldl (fun r f => iput r f.tag (iget m f.tag)) []
theorem someF_snoc (fs : List Fld) (m : List (Int × Int)) (i : Nat) (h : i < fs.length) : someF (fs.take (i + 1)) m = iput (someF (fs.take i) m) fs[i]!.tag (iget m fs[i]!.tag) := by
  have : fs.take (i + 1) = fs.take i ++ [fs[i]!] := by
    rw [List.take_succ_eq_append_getElem h, getElem!_pos fs i h]
  rw [this]
  unfold someF
  rw [List.foldl_append]
  rfl
def MapPost (m : List (Int × Int)) (u : Value) (N : List Chunk) : Prop := ∃ b, u = .map (some b) ∧ N = [.mi b .i64 .u64 m]
set_option maxHeartbeats 1000000 in
theorem msgSome {w : World} {v vm : Value} {fs : List Fld} {m : List (Int × Int)} (hs : RSl Fld.enc 3 w [] v fs) (hm : RMp .i64 .u64 w [] vm m) : Spec Go.Proofs.Tryz.prog 44 #[v, vm] w [] (MapPost (someF fs m)) := by
  have hsm := hs.small
  refine Spec.enter (fn := Go.Proofs.Tryz.f44) (n := 24) [v, vm] Go.Proofs.Tryz.func44 (by kernel_rfl) rfl Go.Proofs.Tryz.ntmps44 Go.Proofs.Tryz.results44 rfl (Own.nil _) ?_
  refine JC.rs ?_
  refine Seq.p rfl Ev.assign ?_
  refine Seq.nil ?_
  refine JC.rs ?_
  refine Seq.mkMapI .i64 .u64 (k := ?_); intro b8
  refine Seq.p rfl Ev.assign ?_
  refine Seq.nil ?_
  refine JC.seq ?_
  refine JC.rs ?_
  refine Seq.p rfl Ev.move ?_
  refine Seq.p rfl (Ev.lenSl sl.sl_message_field (hr := hs.r)) ?_
  refine Seq.p rfl Ev.move ?_
  refine Seq.nil ?_
  refine JC.blk ?_
  refine JC.loop (α := Nat) (I := fun i e1 H1 => Has [7, 11, 12, 13, 14, 15, 16, 17, 18, 19, 20, 21, 22] [(11, .int .i64 (i : Int))] _ e1 ∧ H1 = [.mi b8 .i64 .u64 (someF (fs.take i) m)] ∧ i ≤ fs.length) (μ := fun i => fs.length - i) 0 ⟨Has.mk Off.refl (allLook_cons (by repeat (first | exact Look.here | apply Look.there (hne := rfl) | exact Look.const | apply Look.mix rfl | exact Look.arg0 | apply Look.args | exact Look.func)) allLook_nil), rfl, by omega⟩ ?_
  rintro i _ _ ⟨⟨ui, rfl⟩, rfl, hi⟩; dsimp only [setL]
  refine JC.rs ?_
  refine Seq.p rfl Ev.lt ?_
  refine Seq.nil ?_
  refine JC.seq ?_
  first | refine JC.c (ht := fun c12 => ?_) (hf := fun c12 => ?_) | refine JC.cb (ht := fun c12 => ?_) (hf := fun c12 => ?_)
  · -- then_t12
    have hi2 : i < fs.length := by omega
    refine JC.skip ?_
    refine JC.seq ?_
    refine JC.blk ?_
    refine JC.rs ?_
    refine Seq.p rfl (Ev.iaN sl.sl_message_field (hr := hs.r)) ?_
    refine Seq.p rfl (Ev.ldEA ag.message_field (hr := hs.r)) ?_
    refine Seq.alloc (cs := [_, _, _]) (hz := z.message_field) (k := ?_); intro b7
    refine Seq.storeN [_, _, _] sz.message_field (k := ?_)
    refine Seq.nil ?_
    refine JC.reg ?_
    refine Seq.p rfl Ev.move ?_
    refine Seq.p rfl (Ev.faB fd.message_field_0) ?_
    refine Seq.p rfl (Ev.ldB sc.int) ?_
    refine Seq.p rfl Ev.move ?_
    refine Seq.p rfl (Ev.faB fd.message_field_0) ?_
    refine Seq.p rfl (Ev.ldB sc.int) ?_
    refine Seq.p rfl (Ev.mapI mp.m_int_uint64 z.uint64 hm.r) ?_
    refine Seq.mapPutI mp.m_int_uint64 (kk' := ?_)
    refine Seq.nil ?_
    refine JC.reg ?_
    refine Seq.p rfl (by first | exact Ev.inc | exact Ev.add) ?_
    refine Seq.p rfl Ev.move ?_
    refine Seq.nil ?_
    exact ⟨i + 1, _, Part.skip (Part.refl _), ⟨Has.mk (by repeat (first | refine Off.upd ?_ rfl | exact Off.mix | refine Off.mix2 ?_ rfl | exact Off.refl)) (allLook_cons (by repeat (first | exact Look.here | apply Look.there (hne := rfl) | exact Look.const | apply Look.mix rfl | exact Look.arg0 | apply Look.args | exact Look.func)) allLook_nil), by rw [someF_snoc fs m i hi2]; rfl, by omega⟩, by omega⟩
  · -- else_t12
    obtain rfl : i = fs.length := by omega
    refine JC.exit ?_ -- 0
    refine JC.rs ?_
    refine Seq.p rfl Ev.move ?_
    refine Seq.p rfl Ev.assign ?_
    refine Seq.nil ?_
    refine JC.ret ?_
    -- return 0
    show retQ _ _ _ _ _ _ _ _
    refine ret1 (hp := Part.refl _) (hpost := ?_)
    exact ⟨b8, rfl, by rw [List.take_length]⟩
def blankFs (k : Int) : List Fld := match fieldsF (inputF k []) with | some (_, _, fs) => fs | none => []
theorem blank_some {k : Int} (hk : 1 ≤ k ∧ k ≤ 4) : ∃ a s, fieldsF (inputF k []) = some (a, s, blankFs k) := by
  have : k = 1 ∨ k = 2 ∨ k = 3 ∨ k = 4 := by omega
  rcases this with rfl | rfl | rfl | rfl <;> exact ⟨_, _, rfl⟩
set_option maxHeartbeats 1000000 in
theorem msgOnly {w : World} {k : Int} {vm : Value} {m : List (Int × Int)} (hk : 1 ≤ k ∧ k ≤ 4) (hm : RMp .i64 .u64 w [] vm m) : Spec Go.Proofs.Tryz.prog 42 #[.int .u8 k, vm] w [] (MapPost (someF (blankFs k) m)) := by
  obtain ⟨a, s, hF⟩ := blank_some hk
  have hsm := fieldsF_small hF
  generalize blankFs k = fs at hF hsm
  refine Spec.enter (fn := Go.Proofs.Tryz.f42) (n := 22) [.int .u8 k, vm] Go.Proofs.Tryz.func42 (by kernel_rfl) rfl Go.Proofs.Tryz.ntmps42 Go.Proofs.Tryz.results42 rfl (Own.nil _) ?_
  refine JC.rs ?_
  refine Seq.p rfl Ev.assign ?_
  refine Seq.nil ?_
  refine JC.rs ?_
  refine Seq.p rfl Ev.move ?_
  refine Seq.callP rfl (fun w hw => msgInputOf (RMp.nil _ _ _ _)) ?_
  refine Seq.alloc (cs := [_, _, _, _, _, _, _, _, _, _, _]) (hz := z.api_Input) (k := ?_); intro b5
  refine Seq.storeN [_, _, _, _, _, _, _, _, _, _, _] sz.api_Input (k := ?_)
  refine Seq.nil ?_
  refine JC.rs ?_
  refine Seq.p rfl (Ev.ldBA ag.api_Input) ?_
  refine Seq.call rfl (fun w hw => hF ▸ msgFieldsOf) (F := _) (by exact List.Perm.refl _) ?_
  rintro _ _ ⟨bf, rfl, rfl⟩
  refine Seq.p rfl Ev.move ?_
  refine Seq.p rfl Ev.extract ?_
  refine Seq.p rfl Ev.extract ?_
  refine Seq.p rfl Ev.extract ?_
  refine Seq.p rfl Ev.extract ?_
  refine Seq.p rfl Ev.assign ?_
  refine Seq.p rfl Ev.assign ?_
  refine Seq.p rfl Ev.assign ?_
  refine Seq.p rfl Ev.assign ?_
  refine Seq.nil ?_
  refine JC.rs ?_
  refine Seq.p rfl Ev.move ?_
  refine Seq.p rfl Ev.move ?_
  refine Seq.call rfl (fun w hw => msgSome (RAt.up (RAt.box (enc := Fld.enc) (hs := by omega)) hw) (hm.up hw)) (F := _) (by exact List.Perm.refl _) ?_
  rintro _ _ ⟨bm, rfl, rfl⟩
  refine Seq.p rfl Ev.assign ?_
  refine Seq.nil ?_
  refine JC.ret ?_
  -- return 0
  show retQ _ _ _ _ _ _ _ _
  refine ret1 (hp := Part.here (Part.nil _)) (hpost := ?_)
  exact ⟨bm, rfl, rfl⟩
def wordsM (ws : List Int) : List (Int × Int) :=
  [(11, ws[0]!), (9001, ws[0]!), (41, ws[1]!), (1, andU ws[2]! 4294967295), (54, andU (down ws[2]! 32) 255), (40, andU (down ws[2]! 40) 255), (44, andU ws[3]! 4294967295), (38, ws[4]!), (210, ws[5]!)]
def frV (k g0 g1 g2 g3 g4 g5 g6 : Int) : List Value := [.int .u8 k, .int .u64 g0, .int .u64 g1, .int .u64 g2, .int .u64 g3, .int .u64 g4, .int .u64 g5, .int .u64 g6]
def input0 : Input := ⟨0, 0, 0, 0, 0, 0, 0, 0, 0, 0, 0⟩
def unpackI (f : Frame) : Input := inputF f.kind (someF (blankFs f.kind) (wordsM f.words))
def unpackF (f : Frame) : Input × Int := if f.kind < 1 ∨ 4 < f.kind then (input0, 41) else if (packF (unpackI f)).2 = 0 ∧ (packF (unpackI f)).1 = f then (unpackI f, 0) else (input0, 40)
def unpackV (p : Input × Int) : Value := .tuple #[.agg p.1.enc.toArray, .int .i64 p.2]
theorem Frame.eqL_enc (k k' : Int) (a0 a1 a2 a3 a4 a5 a6 g0 g1 g2 g3 g4 g5 g6 : Int) : eqL (Frame.enc ⟨k, [a0, a1, a2, a3, a4, a5, a6]⟩) (Frame.enc ⟨k', [g0, g1, g2, g3, g4, g5, g6]⟩) = decide ((⟨k, [a0, a1, a2, a3, a4, a5, a6]⟩ : Frame) = ⟨k', [g0, g1, g2, g3, g4, g5, g6]⟩) := by
  simp [Frame.enc, eqL, eqV, Bool.decide_and]
theorem msgUnpackInput {w : World} {k : Int} {bs : List Int} {vm : Value} (hm : RMp .i64 .u64 w [] vm (someF (blankFs k) (wordsM bs))) : Spec Go.Proofs.Tryz.prog 21 #[.int .u8 k, vm] w [] (fun u _ => u = .agg (unpackI ⟨k, bs⟩).enc.toArray) := msgInputOf hm
set_option maxHeartbeats 4000000 in
set_option maxRecDepth 100000 in
theorem msgUnpack {w : World} {k g0 g1 g2 g3 g4 g5 g6 : Int} : Spec Go.Proofs.Tryz.prog 17 #[.agg (frV k g0 g1 g2 g3 g4 g5 g6).toArray] w [] (fun u _ => u = unpackV (unpackF ⟨k, [g0, g1, g2, g3, g4, g5, g6]⟩)) := by
  generalize hx : unpackI ⟨k, [g0, g1, g2, g3, g4, g5, g6]⟩ = x
  obtain ⟨a0, a1, a2, a3, a4, a5, a6, h7⟩ := list7 (packF_len x)
  have hP : packF x = (⟨(packF x).1.kind, [a0, a1, a2, a3, a4, a5, a6]⟩, (packF x).2) := by rw [← h7]
  generalize hkk : (packF x).1.kind = kk at hP
  generalize hee : (packF x).2 = ee at hP
  refine Spec.enter (fn := Go.Proofs.Tryz.f17) (n := 67) [.agg (frV k g0 g1 g2 g3 g4 g5 g6).toArray] Go.Proofs.Tryz.func17 (by kernel_rfl) rfl Go.Proofs.Tryz.ntmps17 Go.Proofs.Tryz.results17 rfl (Own.nil _) ?_
  refine JC.rs ?_
  refine Seq.box (cs := [_, _, _, _, _, _, _, _]) (k := ?_); intro b1
  refine Seq.alloc (cs := [_, _, _, _, _, _, _, _, _, _, _]) (hz := z.api_Input) (k := ?_); intro b2
  refine Seq.p rfl Ev.assign ?_
  refine Seq.nil ?_
  refine JC.seq ?_
  refine JC.rs ?_
  refine Seq.p rfl (Ev.faB fd.api_Frame_0) ?_
  refine Seq.p rfl (Ev.ldB sc.uint8) ?_
  refine Seq.p rfl Ev.lt ?_
  refine Seq.p rfl Ev.move ?_
  refine Seq.split (d := 12) (k := ?_)
  rintro (_|_) h12
  · try simp only [decide_eq_true_eq, decide_eq_false_iff_not] at h12
    refine Seq.gy rfl rfl rfl ?_
    refine Seq.p rfl (Ev.faB fd.api_Frame_0) ?_
    refine Seq.gy rfl rfl rfl ?_
    refine Seq.p rfl (Ev.ldB sc.uint8) ?_
    refine Seq.gy rfl rfl rfl ?_
    refine Seq.p rfl Ev.gt ?_
    refine Seq.p rfl Ev.pickF ?_
    refine Seq.nil ?_
    first | refine JC.c (ht := fun c16 => ?_) (hf := fun c16 => ?_) | refine JC.cb (ht := fun c16 => ?_) (hf := fun c16 => ?_)
    · -- then_t16
      refine JC.rs ?_
      refine Seq.p rfl (Ev.buildN [_, _, _, _, _, _, _, _, _, _, _] pl.api_Input z.api_Input) ?_
      refine Seq.storeN [_, _, _, _, _, _, _, _, _, _, _] sz.api_Input (k := ?_)
      refine Seq.p rfl Ev.assign ?_
      refine Seq.nil ?_
      refine JC.ret ?_
      -- return 0
      show retQ _ _ _ _ _ _ _ _
      refine retB2 ag.api_Input (hp := Part.nil _) (hpost := ?_)
      rw [unpackF, if_pos (Or.inr c16)]
      rfl
    · -- else_t16
      have hng : ¬ (k < 1 ∨ 4 < k) := by omega
      refine JC.skip ?_
      refine JC.rs ?_
      refine Seq.p rfl (Ev.faB fd.api_Frame_1) ?_
      refine Seq.p rfl (Ev.ldBPN [_, _, _, _, _, _, _] ag.a7_uint64) ?_
      refine Seq.alloc (cs := [_, _, _, _, _, _, _]) (hz := z.a7_uint64) (k := ?_); intro b4
      refine Seq.storeN [_, _, _, _, _, _, _] sz.a7_uint64 (k := ?_)
      refine Seq.nil ?_
      refine JC.rs ?_
      refine Seq.mkMapI .i64 .u64 (k := ?_); intro b20
      refine Seq.p rfl (Ev.iaArrB ar.a7_uint64) ?_
      refine Seq.p rfl (Ev.ldB sc.uint64) ?_
      refine Seq.mapInsI mp.m_int_uint64 (kk' := ?_)
      refine Seq.p rfl (Ev.iaArrB ar.a7_uint64) ?_
      refine Seq.p rfl (Ev.ldB sc.uint64) ?_
      refine Seq.mapInsI mp.m_int_uint64 (kk' := ?_)
      refine Seq.p rfl (Ev.iaArrB ar.a7_uint64) ?_
      refine Seq.p rfl (Ev.ldB sc.uint64) ?_
      refine Seq.mapInsI mp.m_int_uint64 (kk' := ?_)
      refine Seq.p rfl (Ev.iaArrB ar.a7_uint64) ?_
      refine Seq.p rfl (Ev.ldB sc.uint64) ?_
      refine Seq.p rfl (Ev.bits (k := .u64) (· &&& ·) (.inl ⟨rfl, rfl⟩)) ?_
      refine Seq.mapInsI mp.m_int_uint64 (kk' := ?_)
      refine Seq.p rfl (Ev.iaArrB ar.a7_uint64) ?_
      refine Seq.p rfl (Ev.ldB sc.uint64) ?_
      refine Seq.p rfl Ev.shrW ?_
      refine Seq.p rfl (Ev.bits (k := .u64) (· &&& ·) (.inl ⟨rfl, rfl⟩)) ?_
      refine Seq.mapInsI mp.m_int_uint64 (kk' := ?_)
      refine Seq.p rfl (Ev.iaArrB ar.a7_uint64) ?_
      refine Seq.p rfl (Ev.ldB sc.uint64) ?_
      refine Seq.p rfl Ev.shrW ?_
      refine Seq.p rfl (Ev.bits (k := .u64) (· &&& ·) (.inl ⟨rfl, rfl⟩)) ?_
      refine Seq.mapInsI mp.m_int_uint64 (kk' := ?_)
      refine Seq.p rfl (Ev.iaArrB ar.a7_uint64) ?_
      refine Seq.p rfl (Ev.ldB sc.uint64) ?_
      refine Seq.p rfl (Ev.bits (k := .u64) (· &&& ·) (.inl ⟨rfl, rfl⟩)) ?_
      refine Seq.mapInsI mp.m_int_uint64 (kk' := ?_)
      refine Seq.p rfl (Ev.iaArrB ar.a7_uint64) ?_
      refine Seq.p rfl (Ev.ldB sc.uint64) ?_
      refine Seq.mapInsI mp.m_int_uint64 (kk' := ?_)
      refine Seq.p rfl (Ev.iaArrB ar.a7_uint64) ?_
      refine Seq.p rfl (Ev.ldB sc.uint64) ?_
      refine Seq.mapInsI mp.m_int_uint64 (kk' := ?_)
      refine Seq.p rfl Ev.move ?_
      refine Seq.p rfl Ev.assign ?_
      refine Seq.nil ?_
      refine JC.as mixed ?_
      refine Any.p 0 rfl (by kernel_rfl) (by kernel_rfl) (by kernel_rfl) rfl (Ev.faB fd.api_Frame_0) ?_
      refine Any.p 1 rfl (by kernel_rfl) (by kernel_rfl) (by kernel_rfl) rfl (Ev.ldB sc.uint8) ?_
      refine Any.p 2 rfl (by kernel_rfl) (by kernel_rfl) (by kernel_rfl) rfl (Ev.faB fd.api_Frame_0) ?_
      refine Any.p 3 rfl (by kernel_rfl) (by kernel_rfl) (by kernel_rfl) rfl (Ev.ldB sc.uint8) ?_
      refine Any.p 4 rfl (by kernel_rfl) (by kernel_rfl) (by kernel_rfl) rfl Ev.move ?_
      refine Any.two 5 7 rfl rfl (by kernel_rfl) ?_ ?_
      · -- first 5
        refine Seq.call rfl (fun w hw => msgOnly (m := wordsM [g0, g1, g2, g3, g4, g5, g6]) (by omega) (RM.up RM.own hw)) (F := _) (by exact List.Perm.refl _) ?_
        rintro _ _ ⟨bm, rfl, rfl⟩
        refine Seq.nil ⟨(by repeat (first | exact Part.refl _ | exact Part.nil _ | apply Part.here | apply Part.skip)), ?_⟩
        refine Any.two 6 7 rfl rfl (by kernel_rfl) ?_ ?_
        · -- first 6
          refine Seq.callP rfl (fun w hw => hx ▸ msgUnpackInput (bs := [g0, g1, g2, g3, g4, g5, g6]) (RM.up RM.own hw)) ?_
          refine Seq.nil ⟨(by repeat (first | exact Part.refl _ | exact Part.nil _ | apply Part.here | apply Part.skip)), ?_⟩
          refine Any.one 7 rfl (by kernel_rfl) ?_
          refine Seq.alloc (cs := [_, _, _, _, _, _, _, _, _, _, _]) (hz := z.api_Input) (k := ?_); intro b6
          refine Seq.nil ⟨(by repeat (first | exact Part.refl _ | exact Part.nil _ | apply Part.here | apply Part.skip)), ?_⟩
          refine Any.one 8 rfl (by kernel_rfl) ?_
          refine Seq.storeN [_, _, _, _, _, _, _, _, _, _, _] sz.api_Input (k := ?_)
          refine Seq.nil ⟨(by repeat (first | exact Part.refl _ | exact Part.nil _ | apply Part.here | apply Part.skip)), ?_⟩
          refine Any.done (by kernel_rfl) ?_
          refine JC.seq ?_
          refine JC.rs ?_
          refine Seq.p rfl (Ev.ldBA ag.api_Input) ?_
          refine Seq.callP rfl (fun w hw => hP ▸ msgPack) ?_
          refine Seq.p rfl Ev.move ?_
          refine Seq.p rfl Ev.extract ?_
          refine Seq.p rfl Ev.extract ?_
          refine Seq.alloc (cs := [_, _, _, _, _, _, _, _]) (hz := z.api_Frame) (k := ?_); intro b7
          refine Seq.storeN [_, _, _, _, _, _, _, _] sz.api_Frame (k := ?_)
          refine Seq.p rfl Ev.assign ?_
          refine Seq.nil ?_
          refine JC.rs ?_
          refine Seq.p rfl Ev.move ?_
          refine Seq.p rfl Ev.ne ?_
          refine Seq.p rfl Ev.move ?_
          refine Seq.split (d := 60) (k := ?_)
          rintro (_|_) h60
          · try simp only [decide_eq_true_eq, decide_eq_false_iff_not] at h60
            refine Seq.gy rfl rfl rfl ?_
            refine Seq.p rfl (Ev.ldBA ag.api_Frame) ?_
            refine Seq.gy rfl rfl rfl ?_
            refine Seq.p rfl (Ev.ldBA ag.api_Frame) ?_
            refine Seq.gy rfl rfl rfl ?_
            refine Seq.p rfl (Ev.neAg so.api_Frame ag.api_Frame gd.api_Frame) ?_
            refine Seq.p rfl Ev.pickF ?_
            refine Seq.nil ?_
            first | refine JC.c (ht := fun c64 => ?_) (hf := fun c64 => ?_) | refine JC.cb (ht := fun c64 => ?_) (hf := fun c64 => ?_)
            · -- then_t64
              refine JC.rs ?_
              refine Seq.p rfl (Ev.buildN [_, _, _, _, _, _, _, _, _, _, _] pl.api_Input z.api_Input) ?_
              refine Seq.storeN [_, _, _, _, _, _, _, _, _, _, _] sz.api_Input (k := ?_)
              refine Seq.p rfl Ev.assign ?_
              refine Seq.nil ?_
              refine JC.ret ?_
              -- return 1
              show retQ _ _ _ _ _ _ _ _
              refine retB2 ag.api_Input (hp := Part.nil _) (hpost := ?_)
              have c65 : (!eqL (Frame.enc ⟨kk, [a0, a1, a2, a3, a4, a5, a6]⟩) (Frame.enc ⟨k, [g0, g1, g2, g3, g4, g5, g6]⟩)) = true := c64
              rw [Frame.eqL_enc] at c65
              have hne : ¬ ((⟨kk, [a0, a1, a2, a3, a4, a5, a6]⟩ : Frame) = ⟨k, [g0, g1, g2, g3, g4, g5, g6]⟩) := by intro he; rw [decide_eq_true he] at c65; cases c65
              rw [unpackF, if_neg hng, hx, hP, if_neg (fun h => hne h.2)]
              rfl
            · -- else_t64
              refine JC.skip ?_
              refine JC.rs ?_
              refine Seq.p rfl (Ev.ldBA ag.api_Input) ?_
              refine Seq.storeN [_, _, _, _, _, _, _, _, _, _, _] sz.api_Input (k := ?_)
              refine Seq.p rfl Ev.assign ?_
              refine Seq.nil ?_
              refine JC.ret ?_
              -- return 2
              show retQ _ _ _ _ _ _ _ _
              refine retB2 ag.api_Input (hp := Part.nil _) (hpost := ?_)
              have c65 : (!eqL (Frame.enc ⟨kk, [a0, a1, a2, a3, a4, a5, a6]⟩) (Frame.enc ⟨k, [g0, g1, g2, g3, g4, g5, g6]⟩)) = false := c64
              rw [Frame.eqL_enc] at c65
              have heq : ((⟨kk, [a0, a1, a2, a3, a4, a5, a6]⟩ : Frame) = ⟨k, [g0, g1, g2, g3, g4, g5, g6]⟩) := of_ndec c65
              rw [unpackF, if_neg hng, hx, hP, if_pos ⟨Classical.not_not.1 h60, heq⟩]
              rfl
          · try simp only [decide_eq_true_eq, decide_eq_false_iff_not] at h60
            refine Seq.gn rfl rfl rfl rfl ?_
            refine Seq.gn rfl rfl rfl rfl ?_
            refine Seq.gn rfl rfl rfl rfl ?_
            refine Seq.p rfl Ev.pickT ?_
            refine Seq.nil ?_
            refine JC.cT (h := ?_)
            refine JC.rs ?_
            refine Seq.p rfl (Ev.buildN [_, _, _, _, _, _, _, _, _, _, _] pl.api_Input z.api_Input) ?_
            refine Seq.storeN [_, _, _, _, _, _, _, _, _, _, _] sz.api_Input (k := ?_)
            refine Seq.p rfl Ev.assign ?_
            refine Seq.nil ?_
            refine JC.ret ?_
            -- return 3
            show retQ _ _ _ _ _ _ _ _
            refine retB2 ag.api_Input (hp := Part.nil _) (hpost := ?_)
            rw [unpackF, if_neg hng, hx, hP, if_neg (fun h => h60 h.1)]
            rfl
        · -- first 7
          refine Seq.alloc (cs := [_, _, _, _, _, _, _, _, _, _, _]) (hz := z.api_Input) (k := ?_); intro b6
          refine Seq.nil ⟨(by repeat (first | exact Part.refl _ | exact Part.nil _ | apply Part.here | apply Part.skip)), ?_⟩
          refine Any.one 6 rfl (by kernel_rfl) ?_
          refine Seq.callP rfl (fun w hw => hx ▸ msgUnpackInput (bs := [g0, g1, g2, g3, g4, g5, g6]) (RM.up RM.own hw)) ?_
          refine Seq.nil ⟨(by repeat (first | exact Part.refl _ | exact Part.nil _ | apply Part.here | apply Part.skip)), ?_⟩
          refine Any.one 8 rfl (by kernel_rfl) ?_
          refine Seq.storeN [_, _, _, _, _, _, _, _, _, _, _] sz.api_Input (k := ?_)
          refine Seq.nil ⟨(by repeat (first | exact Part.refl _ | exact Part.nil _ | apply Part.here | apply Part.skip)), ?_⟩
          refine Any.done (by kernel_rfl) ?_
          refine JC.seq ?_
          refine JC.rs ?_
          refine Seq.p rfl (Ev.ldBA ag.api_Input) ?_
          refine Seq.callP rfl (fun w hw => hP ▸ msgPack) ?_
          refine Seq.p rfl Ev.move ?_
          refine Seq.p rfl Ev.extract ?_
          refine Seq.p rfl Ev.extract ?_
          refine Seq.alloc (cs := [_, _, _, _, _, _, _, _]) (hz := z.api_Frame) (k := ?_); intro b7
          refine Seq.storeN [_, _, _, _, _, _, _, _] sz.api_Frame (k := ?_)
          refine Seq.p rfl Ev.assign ?_
          refine Seq.nil ?_
          refine JC.rs ?_
          refine Seq.p rfl Ev.move ?_
          refine Seq.p rfl Ev.ne ?_
          refine Seq.p rfl Ev.move ?_
          refine Seq.split (d := 60) (k := ?_)
          rintro (_|_) h60
          · try simp only [decide_eq_true_eq, decide_eq_false_iff_not] at h60
            refine Seq.gy rfl rfl rfl ?_
            refine Seq.p rfl (Ev.ldBA ag.api_Frame) ?_
            refine Seq.gy rfl rfl rfl ?_
            refine Seq.p rfl (Ev.ldBA ag.api_Frame) ?_
            refine Seq.gy rfl rfl rfl ?_
            refine Seq.p rfl (Ev.neAg so.api_Frame ag.api_Frame gd.api_Frame) ?_
            refine Seq.p rfl Ev.pickF ?_
            refine Seq.nil ?_
            first | refine JC.c (ht := fun c64 => ?_) (hf := fun c64 => ?_) | refine JC.cb (ht := fun c64 => ?_) (hf := fun c64 => ?_)
            · -- then_t64
              refine JC.rs ?_
              refine Seq.p rfl (Ev.buildN [_, _, _, _, _, _, _, _, _, _, _] pl.api_Input z.api_Input) ?_
              refine Seq.storeN [_, _, _, _, _, _, _, _, _, _, _] sz.api_Input (k := ?_)
              refine Seq.p rfl Ev.assign ?_
              refine Seq.nil ?_
              refine JC.ret ?_
              -- return 4
              show retQ _ _ _ _ _ _ _ _
              refine retB2 ag.api_Input (hp := Part.nil _) (hpost := ?_)
              have c65 : (!eqL (Frame.enc ⟨kk, [a0, a1, a2, a3, a4, a5, a6]⟩) (Frame.enc ⟨k, [g0, g1, g2, g3, g4, g5, g6]⟩)) = true := c64
              rw [Frame.eqL_enc] at c65
              have hne : ¬ ((⟨kk, [a0, a1, a2, a3, a4, a5, a6]⟩ : Frame) = ⟨k, [g0, g1, g2, g3, g4, g5, g6]⟩) := by intro he; rw [decide_eq_true he] at c65; cases c65
              rw [unpackF, if_neg hng, hx, hP, if_neg (fun h => hne h.2)]
              rfl
            · -- else_t64
              refine JC.skip ?_
              refine JC.rs ?_
              refine Seq.p rfl (Ev.ldBA ag.api_Input) ?_
              refine Seq.storeN [_, _, _, _, _, _, _, _, _, _, _] sz.api_Input (k := ?_)
              refine Seq.p rfl Ev.assign ?_
              refine Seq.nil ?_
              refine JC.ret ?_
              -- return 5
              show retQ _ _ _ _ _ _ _ _
              refine retB2 ag.api_Input (hp := Part.nil _) (hpost := ?_)
              have c65 : (!eqL (Frame.enc ⟨kk, [a0, a1, a2, a3, a4, a5, a6]⟩) (Frame.enc ⟨k, [g0, g1, g2, g3, g4, g5, g6]⟩)) = false := c64
              rw [Frame.eqL_enc] at c65
              have heq : ((⟨kk, [a0, a1, a2, a3, a4, a5, a6]⟩ : Frame) = ⟨k, [g0, g1, g2, g3, g4, g5, g6]⟩) := of_ndec c65
              rw [unpackF, if_neg hng, hx, hP, if_pos ⟨Classical.not_not.1 h60, heq⟩]
              rfl
          · try simp only [decide_eq_true_eq, decide_eq_false_iff_not] at h60
            refine Seq.gn rfl rfl rfl rfl ?_
            refine Seq.gn rfl rfl rfl rfl ?_
            refine Seq.gn rfl rfl rfl rfl ?_
            refine Seq.p rfl Ev.pickT ?_
            refine Seq.nil ?_
            refine JC.cT (h := ?_)
            refine JC.rs ?_
            refine Seq.p rfl (Ev.buildN [_, _, _, _, _, _, _, _, _, _, _] pl.api_Input z.api_Input) ?_
            refine Seq.storeN [_, _, _, _, _, _, _, _, _, _, _] sz.api_Input (k := ?_)
            refine Seq.p rfl Ev.assign ?_
            refine Seq.nil ?_
            refine JC.ret ?_
            -- return 6
            show retQ _ _ _ _ _ _ _ _
            refine retB2 ag.api_Input (hp := Part.nil _) (hpost := ?_)
            rw [unpackF, if_neg hng, hx, hP, if_neg (fun h => h60 h.1)]
            rfl
      · -- first 7
        refine Seq.alloc (cs := [_, _, _, _, _, _, _, _, _, _, _]) (hz := z.api_Input) (k := ?_); intro b6
        refine Seq.nil ⟨(by repeat (first | exact Part.refl _ | exact Part.nil _ | apply Part.here | apply Part.skip)), ?_⟩
        refine Any.one 5 rfl (by kernel_rfl) ?_
        refine Seq.call rfl (fun w hw => msgOnly (m := wordsM [g0, g1, g2, g3, g4, g5, g6]) (by omega) (RM.up RM.own hw)) (F := _) (by exact List.Perm.refl _) ?_
        rintro _ _ ⟨bm, rfl, rfl⟩
        refine Seq.nil ⟨(by repeat (first | exact Part.refl _ | exact Part.nil _ | apply Part.here | apply Part.skip)), ?_⟩
        refine Any.one 6 rfl (by kernel_rfl) ?_
        refine Seq.callP rfl (fun w hw => hx ▸ msgUnpackInput (bs := [g0, g1, g2, g3, g4, g5, g6]) (RM.up RM.own hw)) ?_
        refine Seq.nil ⟨(by repeat (first | exact Part.refl _ | exact Part.nil _ | apply Part.here | apply Part.skip)), ?_⟩
        refine Any.one 8 rfl (by kernel_rfl) ?_
        refine Seq.storeN [_, _, _, _, _, _, _, _, _, _, _] sz.api_Input (k := ?_)
        refine Seq.nil ⟨(by repeat (first | exact Part.refl _ | exact Part.nil _ | apply Part.here | apply Part.skip)), ?_⟩
        refine Any.done (by kernel_rfl) ?_
        refine JC.seq ?_
        refine JC.rs ?_
        refine Seq.p rfl (Ev.ldBA ag.api_Input) ?_
        refine Seq.callP rfl (fun w hw => hP ▸ msgPack) ?_
        refine Seq.p rfl Ev.move ?_
        refine Seq.p rfl Ev.extract ?_
        refine Seq.p rfl Ev.extract ?_
        refine Seq.alloc (cs := [_, _, _, _, _, _, _, _]) (hz := z.api_Frame) (k := ?_); intro b7
        refine Seq.storeN [_, _, _, _, _, _, _, _] sz.api_Frame (k := ?_)
        refine Seq.p rfl Ev.assign ?_
        refine Seq.nil ?_
        refine JC.rs ?_
        refine Seq.p rfl Ev.move ?_
        refine Seq.p rfl Ev.ne ?_
        refine Seq.p rfl Ev.move ?_
        refine Seq.split (d := 60) (k := ?_)
        rintro (_|_) h60
        · try simp only [decide_eq_true_eq, decide_eq_false_iff_not] at h60
          refine Seq.gy rfl rfl rfl ?_
          refine Seq.p rfl (Ev.ldBA ag.api_Frame) ?_
          refine Seq.gy rfl rfl rfl ?_
          refine Seq.p rfl (Ev.ldBA ag.api_Frame) ?_
          refine Seq.gy rfl rfl rfl ?_
          refine Seq.p rfl (Ev.neAg so.api_Frame ag.api_Frame gd.api_Frame) ?_
          refine Seq.p rfl Ev.pickF ?_
          refine Seq.nil ?_
          first | refine JC.c (ht := fun c64 => ?_) (hf := fun c64 => ?_) | refine JC.cb (ht := fun c64 => ?_) (hf := fun c64 => ?_)
          · -- then_t64
            refine JC.rs ?_
            refine Seq.p rfl (Ev.buildN [_, _, _, _, _, _, _, _, _, _, _] pl.api_Input z.api_Input) ?_
            refine Seq.storeN [_, _, _, _, _, _, _, _, _, _, _] sz.api_Input (k := ?_)
            refine Seq.p rfl Ev.assign ?_
            refine Seq.nil ?_
            refine JC.ret ?_
            -- return 7
            show retQ _ _ _ _ _ _ _ _
            refine retB2 ag.api_Input (hp := Part.nil _) (hpost := ?_)
            have c65 : (!eqL (Frame.enc ⟨kk, [a0, a1, a2, a3, a4, a5, a6]⟩) (Frame.enc ⟨k, [g0, g1, g2, g3, g4, g5, g6]⟩)) = true := c64
            rw [Frame.eqL_enc] at c65
            have hne : ¬ ((⟨kk, [a0, a1, a2, a3, a4, a5, a6]⟩ : Frame) = ⟨k, [g0, g1, g2, g3, g4, g5, g6]⟩) := by intro he; rw [decide_eq_true he] at c65; cases c65
            rw [unpackF, if_neg hng, hx, hP, if_neg (fun h => hne h.2)]
            rfl
          · -- else_t64
            refine JC.skip ?_
            refine JC.rs ?_
            refine Seq.p rfl (Ev.ldBA ag.api_Input) ?_
            refine Seq.storeN [_, _, _, _, _, _, _, _, _, _, _] sz.api_Input (k := ?_)
            refine Seq.p rfl Ev.assign ?_
            refine Seq.nil ?_
            refine JC.ret ?_
            -- return 8
            show retQ _ _ _ _ _ _ _ _
            refine retB2 ag.api_Input (hp := Part.nil _) (hpost := ?_)
            have c65 : (!eqL (Frame.enc ⟨kk, [a0, a1, a2, a3, a4, a5, a6]⟩) (Frame.enc ⟨k, [g0, g1, g2, g3, g4, g5, g6]⟩)) = false := c64
            rw [Frame.eqL_enc] at c65
            have heq : ((⟨kk, [a0, a1, a2, a3, a4, a5, a6]⟩ : Frame) = ⟨k, [g0, g1, g2, g3, g4, g5, g6]⟩) := of_ndec c65
            rw [unpackF, if_neg hng, hx, hP, if_pos ⟨Classical.not_not.1 h60, heq⟩]
            rfl
        · try simp only [decide_eq_true_eq, decide_eq_false_iff_not] at h60
          refine Seq.gn rfl rfl rfl rfl ?_
          refine Seq.gn rfl rfl rfl rfl ?_
          refine Seq.gn rfl rfl rfl rfl ?_
          refine Seq.p rfl Ev.pickT ?_
          refine Seq.nil ?_
          refine JC.cT (h := ?_)
          refine JC.rs ?_
          refine Seq.p rfl (Ev.buildN [_, _, _, _, _, _, _, _, _, _, _] pl.api_Input z.api_Input) ?_
          refine Seq.storeN [_, _, _, _, _, _, _, _, _, _, _] sz.api_Input (k := ?_)
          refine Seq.p rfl Ev.assign ?_
          refine Seq.nil ?_
          refine JC.ret ?_
          -- return 9
          show retQ _ _ _ _ _ _ _ _
          refine retB2 ag.api_Input (hp := Part.nil _) (hpost := ?_)
          rw [unpackF, if_neg hng, hx, hP, if_neg (fun h => h60 h.1)]
          rfl
  · try simp only [decide_eq_true_eq, decide_eq_false_iff_not] at h12
    refine Seq.gn rfl rfl rfl rfl ?_
    refine Seq.gn rfl rfl rfl rfl ?_
    refine Seq.gn rfl rfl rfl rfl ?_
    refine Seq.p rfl Ev.pickT ?_
    refine Seq.nil ?_
    refine JC.cT (h := ?_)
    refine JC.rs ?_
    refine Seq.p rfl (Ev.buildN [_, _, _, _, _, _, _, _, _, _, _] pl.api_Input z.api_Input) ?_
    refine Seq.storeN [_, _, _, _, _, _, _, _, _, _, _] sz.api_Input (k := ?_)
    refine Seq.p rfl Ev.assign ?_
    refine Seq.nil ?_
    refine JC.ret ?_
    -- return 10
    show retQ _ _ _ _ _ _ _ _
    refine retB2 ag.api_Input (hp := Part.nil _) (hpost := ?_)
    rw [unpackF, if_pos (Or.inl h12)]
    rfl
end Go.Rx
namespace Go.Rx
open Go Go.RowKit
set_option linter.unusedVariables false
set_option linter.unusedSimpArgs false
def takenF (f : Frame) (x : RF) : Int := if 0 < x.most then andU (down f.words[x.word.toNat]! x.shift) x.most else down f.words[x.word.toNat]! x.shift
def takeGo (f : Frame) (l : List RF) (a : Input) : Input := l.foldl (fun a x => withF a x.tag (takenF f x)) a
theorem takeGo_snoc (f : Frame) (l : List RF) (a : Input) (i : Nat) (h : i < l.length) : takeGo f (l.take (i + 1)) a = withF (takeGo f (l.take i) a) l[i]!.tag (takenF f l[i]!) := by
  have : l.take (i + 1) = l.take i ++ [l[i]!] := by
    rw [List.take_succ_eq_append_getElem h, getElem!_pos l i h]
  rw [this]
  unfold takeGo
  rw [List.foldl_append]
  rfl
set_option maxHeartbeats 4000000 in
set_option maxRecDepth 100000 in
theorem refFields0 {w : World} {k : Int} (hk : ¬ (1 ≤ k ∧ k ≤ 4)) : Spec Go.Proofs.Tryz.prog 26 #[.int .i64 k] w [] (fun u _ => u = .slice none 0 0) := by
  refine Spec.enter (fn := Go.Proofs.Tryz.f26) (n := 40) [.int .i64 k] Go.Proofs.Tryz.func26 (by kernel_rfl) rfl Go.Proofs.Tryz.ntmps26 Go.Proofs.Tryz.results26 rfl (Own.nil _) ?_
  refine JC.rs ?_
  refine Seq.p rfl Ev.assign ?_
  refine Seq.nil ?_
  refine JC.rs ?_
  refine Seq.p rfl (Ev.buildN [_, _, _, _] pl.bourseref04_field z.bourseref04_field) ?_
  refine Seq.p rfl (Ev.buildN [_, _, _, _] pl.bourseref04_field z.bourseref04_field) ?_
  refine Seq.alloc (cs := [_, _, _, _]) (hz := z.bourseref04_field) (k := ?_); intro b3
  refine Seq.alloc (cs := [_, _, _, _]) (hz := z.bourseref04_field) (k := ?_); intro b4
  refine Seq.storeN [_, _, _, _] sz.bourseref04_field (k := ?_)
  refine Seq.storeN [_, _, _, _] sz.bourseref04_field (k := ?_)
  refine Seq.nil ?_
  refine JC.rs ?_
  refine Seq.p rfl (Ev.buildN [_, _, _, _] pl.bourseref04_field z.bourseref04_field) ?_
  refine Seq.p rfl (Ev.buildN [_, _, _, _] pl.bourseref04_field z.bourseref04_field) ?_
  refine Seq.p rfl (Ev.buildN [_, _, _, _] pl.bourseref04_field z.bourseref04_field) ?_
  refine Seq.alloc (cs := [_, _, _, _]) (hz := z.bourseref04_field) (k := ?_); intro b5
  refine Seq.alloc (cs := [_, _, _, _]) (hz := z.bourseref04_field) (k := ?_); intro b6
  refine Seq.alloc (cs := [_, _, _, _]) (hz := z.bourseref04_field) (k := ?_); intro b7
  refine Seq.storeN [_, _, _, _] sz.bourseref04_field (k := ?_)
  refine Seq.storeN [_, _, _, _] sz.bourseref04_field (k := ?_)
  refine Seq.storeN [_, _, _, _] sz.bourseref04_field (k := ?_)
  refine Seq.nil ?_
  refine JC.seq ?_
  refine JC.rs ?_
  refine Seq.p rfl Ev.move ?_
  refine Seq.nil ?_
  refine JC.blk ?_
  refine JC.rs ?_
  refine Seq.p rfl Ev.eq ?_
  refine Seq.p rfl Ev.assign ?_
  refine Seq.nil ?_
  first | refine JC.c (ht := fun c14 => ?_) (hf := fun c14 => ?_) | refine JC.cb (ht := fun c14 => ?_) (hf := fun c14 => ?_)
  · -- then_t14
    exfalso; omega
  · -- else_t14
    refine JC.rs ?_
    refine Seq.p rfl Ev.eq ?_
    refine Seq.p rfl Ev.assign ?_
    refine Seq.nil ?_
    first | refine JC.c (ht := fun c24 => ?_) (hf := fun c24 => ?_) | refine JC.cb (ht := fun c24 => ?_) (hf := fun c24 => ?_)
    · -- then_t24
      exfalso; omega
    · -- else_t24
      refine JC.rs ?_
      refine Seq.p rfl Ev.eq ?_
      refine Seq.p rfl Ev.assign ?_
      refine Seq.nil ?_
      first | refine JC.c (ht := fun c28 => ?_) (hf := fun c28 => ?_) | refine JC.cb (ht := fun c28 => ?_) (hf := fun c28 => ?_)
      · -- then_t28
        exfalso; omega
      · -- else_t28
        refine JC.rs ?_
        refine Seq.p rfl Ev.eq ?_
        refine Seq.p rfl Ev.assign ?_
        refine Seq.nil ?_
        first | refine JC.c (ht := fun c36 => ?_) (hf := fun c36 => ?_) | refine JC.cb (ht := fun c36 => ?_) (hf := fun c36 => ?_)
        · -- then_t36
          exfalso; omega
        · -- else_t36
          refine JC.skip ?_
          refine JC.rs ?_
          refine Seq.p rfl Ev.assign ?_
          refine Seq.nil ?_
          refine JC.ret ?_
          -- return 0
          show retQ _ _ _ _ _ _ _ _
          refine ret1 (hp := Part.nil _) (hpost := ?_)
          rfl
def refUnpackI (f : Frame) : Input := takeGo f (refFieldsF f.kind) (bareF f.kind)
def refUnpackF (f : Frame) : Input × Int := if f.kind < 1 ∨ 4 < f.kind then (input0, 41) else if (refPackF (refUnpackI f)).2 = 0 ∧ (refPackF (refUnpackI f)).1 = f then (refUnpackI f, 0) else (input0, 40)
end Go.Rx
