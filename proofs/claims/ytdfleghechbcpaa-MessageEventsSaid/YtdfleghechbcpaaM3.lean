/- A part of the proof: the text M3. -/
import Derived.Test.YtdfleghechbcpaaM2
namespace Go.Rx
open Go Go.RowKit
set_option linter.unusedVariables false
set_option linter.unusedSimpArgs false
def numsF (fs : List Fld) : List (Int × Int) := fs.foldl (fun m f => iput m f.tag f.num) []
theorem numsF_snoc (fs : List Fld) (i : Nat) (h : i < fs.length) : numsF (fs.take (i + 1)) = iput (numsF (fs.take i)) fs[i]!.tag fs[i]!.num := by
  have : fs.take (i + 1) = fs.take i ++ [fs[i]!] := by
    rw [List.take_succ_eq_append_getElem h, getElem!_pos fs i h]
  rw [this]
  unfold numsF
  rw [List.foldl_append]
  rfl
def NumsPost (fs : List Fld) (u : Value) (N : List Chunk) : Prop :=
  if fs.all (·.fits) = true then ∃ b, u = .tuple #[.map (some b), .bool true] ∧ N = [.mi b .i64 .u64 (numsF fs)] else u = .tuple #[.map none, .bool false]
set_option maxHeartbeats 1000000 in
theorem msgNumbers {w : World} {v : Value} {fs : List Fld} (hs : RSl Fld.enc 3 w [] v fs) : Spec Go.Proofs.Try.prog 32 #[v] w [] (NumsPost fs) := by
  have hsm := hs.small
  refine Spec.enter (fn := Go.Proofs.Try.f32) (n := 24) [v] Go.Proofs.Try.func32 (by kernel_rfl) rfl Go.Proofs.Try.ntmps32 Go.Proofs.Try.results32 rfl (Own.nil _) ?_
  refine JC.rs ?_
  refine Seq.p rfl Ev.assign ?_
  refine Seq.p rfl Ev.assign ?_
  refine Seq.nil ?_
  refine JC.rs ?_
  refine Seq.mkMapI .i64 .u64 (k := ?_); intro b7
  refine Seq.p rfl Ev.assign ?_
  refine Seq.nil ?_
  refine JC.seq ?_
  refine JC.rs ?_
  refine Seq.p rfl Ev.move ?_
  refine Seq.p rfl (Ev.lenSl sl.sl_message_field (hr := hs.r)) ?_
  refine Seq.p rfl Ev.move ?_
  refine Seq.nil ?_
  refine JC.blk ?_
  refine JC.loop (α := Nat) (I := fun i e1 H1 => Has [2, 3, 6, 10, 11, 12, 13, 14, 15, 16, 17, 18, 19, 20, 21, 22] [(10, .int .i64 (i : Int))] _ e1 ∧ H1 = [.mi b7 .i64 .u64 (numsF (fs.take i))] ∧ i ≤ fs.length ∧ ∀ j, j < i → fs[j]!.fits = true) (μ := fun i => fs.length - i) 0 ⟨Has.mk Off.refl (allLook_cons (by repeat (first | exact Look.here | apply Look.there (hne := rfl) | exact Look.const | apply Look.mix rfl | exact Look.arg0 | apply Look.args | exact Look.func)) allLook_nil), rfl, by omega, by omega⟩ ?_
  rintro i _ _ ⟨⟨ui, rfl⟩, rfl, hi, hlt⟩; dsimp only [setL]
  refine JC.rs ?_
  refine Seq.p rfl Ev.lt ?_
  refine Seq.nil ?_
  refine JC.seq ?_
  first | refine JC.c (ht := fun c11 => ?_) (hf := fun c11 => ?_) | refine JC.cb (ht := fun c11 => ?_) (hf := fun c11 => ?_)
  · -- then_t11
    have hi2 : i < fs.length := by omega
    refine JC.skip ?_
    refine JC.seq ?_
    refine JC.blk ?_
    refine JC.rs ?_
    refine Seq.p rfl (Ev.iaN sl.sl_message_field (hr := hs.r)) ?_
    refine Seq.p rfl (Ev.ldEA ag.message_field (hr := hs.r)) ?_
    refine Seq.alloc (cs := [_, _, _]) (hz := z.message_field) (k := ?_); intro b6
    refine Seq.storeN [_, _, _] sz.message_field (k := ?_)
    refine Seq.nil ?_
    refine JC.seq ?_
    refine JC.rs ?_
    refine Seq.p rfl (Ev.faB fd.message_field_2) ?_
    refine Seq.p rfl (Ev.ldB sc.bool) ?_
    refine Seq.p rfl Ev.not ?_
    refine Seq.nil ?_
    have hi2 : i < fs.length := by omega
    first | refine JC.c (ht := fun c16 => ?_) (hf := fun c16 => ?_) | refine JC.cb (ht := fun c16 => ?_) (hf := fun c16 => ?_)
    · -- then_t16
      refine JC.rs ?_
      refine Seq.p rfl Ev.assign ?_
      refine Seq.p rfl Ev.assign ?_
      refine Seq.nil ?_
      refine JC.ret ?_
      -- return 0
      show retQ _ _ _ _ _ _ _ _
      refine ret2 (hp := Part.nil _) (hpost := ?_)
      have hn : ¬ (fs.all (·.fits) = true) := by
        intro h
        have this : fs[i]!.fits = true := List.all_eq_true.1 h fs[i]! (by rw [getElem!_pos fs i hi2]; exact List.getElem_mem hi2)
        rw [this] at c16
        cases c16
      show NumsPost _ _ _
      rw [NumsPost, if_neg hn]
    · -- else_t16
      refine JC.skip ?_
      refine JC.reg ?_
      refine Seq.p rfl Ev.move ?_
      refine Seq.p rfl (Ev.faB fd.message_field_0) ?_
      refine Seq.p rfl (Ev.ldB sc.int) ?_
      refine Seq.p rfl (Ev.faB fd.message_field_1) ?_
      refine Seq.p rfl (Ev.ldB sc.uint64) ?_
      refine Seq.mapPutI mp.m_int_uint64 (kk' := ?_)
      refine Seq.nil ?_
      refine JC.reg ?_
      refine Seq.p rfl (by first | exact Ev.inc | exact Ev.add) ?_
      refine Seq.p rfl Ev.move ?_
      refine Seq.nil ?_
      refine ⟨i + 1, _, Part.skip (Part.refl _), ⟨Has.mk (by repeat (first | refine Off.upd ?_ rfl | exact Off.mix | refine Off.mix2 ?_ rfl | exact Off.refl)) (allLook_cons (by repeat (first | exact Look.here | apply Look.there (hne := rfl) | exact Look.const | apply Look.mix rfl | exact Look.arg0 | apply Look.args | exact Look.func)) allLook_nil), by rw [numsF_snoc fs i hi2]; rfl, by omega, ?_⟩, by omega⟩
      intro j hj
      by_cases h : j = i
      · subst h; simpa using c16
      · exact hlt j (by omega)
  · -- else_t11
    have hi2 : i = fs.length := by omega
    subst hi2
    refine JC.exit ?_ -- 0
    refine JC.rs ?_
    refine Seq.p rfl Ev.move ?_
    refine Seq.p rfl Ev.assign ?_
    refine Seq.p rfl Ev.assign ?_
    refine Seq.nil ?_
    refine JC.ret ?_
    -- return 1
    show retQ _ _ _ _ _ _ _ _
    refine ret2 (hp := Part.refl _) (hpost := ?_)
    have hn : fs.all (·.fits) = true := by
      rw [List.all_eq_true]
      intro x hx
      obtain ⟨j, hj, rfl⟩ := List.getElem_of_mem hx
      have := hlt j hj
      rwa [getElem!_pos fs j hj] at this
    show NumsPost _ _ _
    rw [NumsPost, if_pos hn]
    exact ⟨b7, rfl, by rw [List.take_length]⟩
def toldE (i : Input) : Int := match fieldsF i with | none => 41 | some (k, s, fs) => if fs.all (·.fits) = true ∧ inputF k (numsF fs) = i then 0 else 40
theorem Input.eqL_enc (x y : Input) : eqL x.enc y.enc = decide (x = y) := by
  cases x; cases y
  simp [Input.enc, eqL, eqV, Bool.decide_and]
def ToldPost (i : Input) (u : Value) (N : List Chunk) : Prop :=
  if toldE i = 0 then ∃ k s fs b1 b2, fieldsF i = some (k, s, fs) ∧ u = .tuple #[.int .u8 k, .string s, .slice (some ⟨b1, 0, none⟩) fs.length fs.length, .map (some b2), .int .i64 0] ∧ N = [.mi b2 .i64 .u64 (numsF fs), .box b1 79 (fs.flatMap Fld.enc)]
  else u = .tuple #[.int .u8 0, .string ⟨#[]⟩, .slice none 0 0, .map none, .int .i64 (toldE i)]
theorem fieldsF_small {i : Input} {k : Int} {s : ByteArray} {fs : List Fld} (h : fieldsF i = some (k, s, fs)) : fs.length ≤ 7 := by
  unfold fieldsF at h
  repeat (first | (split at h) | (simp only [Option.some.injEq, Prod.mk.injEq] at h; obtain ⟨_, _, rfl⟩ := h; exact Nat.le_of_ble_eq_true rfl) | cases h)
set_option maxHeartbeats 2000000 in
theorem msgTold0 {w : World} {i : Input} (hF : fieldsF i = none) : Spec Go.Proofs.Try.prog 14 #[.agg i.enc.toArray] w [] (ToldPost i) := by
  have hE : toldE i = 41 := by unfold toldE; rw [hF]
  refine Spec.enter (fn := Go.Proofs.Try.f14) (n := 39) [.agg i.enc.toArray] Go.Proofs.Try.func14 (by kernel_rfl) rfl Go.Proofs.Try.ntmps14 Go.Proofs.Try.results14 rfl (Own.nil _) ?_
  refine JC.rs ?_
  refine Seq.box (cs := [_, _, _, _, _, _, _, _, _, _, _]) (k := ?_); intro b1
  refine Seq.p rfl Ev.assign ?_
  refine Seq.p rfl Ev.assign ?_
  refine Seq.p rfl Ev.assign ?_
  refine Seq.p rfl Ev.assign ?_
  refine Seq.p rfl Ev.assign ?_
  refine Seq.nil ?_
  refine JC.rs ?_
  refine Seq.p rfl (Ev.ldBA ag.api_Input) ?_
  refine Seq.call rfl (fun w hw => hF ▸ msgFieldsOf) (F := _) (by exact List.Perm.refl _) ?_
  rintro _ N rfl
  refine Seq.p rfl Ev.move ?_
  refine Seq.p rfl Ev.extract ?_
  refine Seq.p rfl Ev.extract ?_
  refine Seq.p rfl Ev.extract ?_
  refine Seq.p rfl Ev.extract ?_
  refine Seq.p rfl Ev.assign ?_
  refine Seq.p rfl Ev.assign ?_
  refine Seq.p rfl Ev.assign ?_
  refine Seq.p rfl Ev.assign ?_
  refine Seq.nil ?_
  refine JC.seq ?_
  refine JC.rs ?_
  refine Seq.p rfl Ev.move ?_
  refine Seq.p rfl Ev.not ?_
  refine Seq.nil ?_
  first | refine JC.c (ht := fun c20 => ?_) (hf := fun c20 => ?_) | refine JC.cb (ht := fun c20 => ?_) (hf := fun c20 => ?_)
  · -- then_t20
    refine JC.rs ?_
    refine Seq.p rfl Ev.assign ?_
    refine Seq.p rfl Ev.assign ?_
    refine Seq.p rfl Ev.assign ?_
    refine Seq.p rfl Ev.assign ?_
    refine Seq.p rfl Ev.assign ?_
    refine Seq.nil ?_
    refine JC.ret ?_
    -- return 0
    show retQ _ _ _ _ _ _ _ _
    refine retI (RVs.t (hs := (RVs.t (hs := (RVs.t (hs := (RVs.t (hs := (RVs.t (hs := RVs.nil)))))))))) (Part.nil _) ?_
    show ToldPost _ _ _
    rw [ToldPost, if_neg (by rw [hE]; decide), hE]
    rfl
  · -- else_t20
    cases c20
set_option maxHeartbeats 2000000 in
theorem msgTold1 {w : World} {i : Input} {k : Int} {s : ByteArray} {fs : List Fld} (hF : fieldsF i = some (k, s, fs)) (hn : ¬ fs.all (·.fits) = true) : Spec Go.Proofs.Try.prog 14 #[.agg i.enc.toArray] w [] (ToldPost i) := by
  have hE : toldE i = 40 := by unfold toldE; rw [hF]; exact if_neg (fun h => hn h.1)
  have hsm := fieldsF_small hF
  refine Spec.enter (fn := Go.Proofs.Try.f14) (n := 39) [.agg i.enc.toArray] Go.Proofs.Try.func14 (by kernel_rfl) rfl Go.Proofs.Try.ntmps14 Go.Proofs.Try.results14 rfl (Own.nil _) ?_
  refine JC.rs ?_
  refine Seq.box (cs := [_, _, _, _, _, _, _, _, _, _, _]) (k := ?_); intro b1
  refine Seq.p rfl Ev.assign ?_
  refine Seq.p rfl Ev.assign ?_
  refine Seq.p rfl Ev.assign ?_
  refine Seq.p rfl Ev.assign ?_
  refine Seq.p rfl Ev.assign ?_
  refine Seq.nil ?_
  refine JC.rs ?_
  refine Seq.p rfl (Ev.ldBA ag.api_Input) ?_
  refine Seq.call rfl (fun w hw => hF ▸ msgFieldsOf) (F := _) (by exact List.Perm.refl _) ?_
  rintro _ _ ⟨bf, rfl, rfl⟩
  refine Seq.p rfl Ev.move ?_
  refine Seq.p rfl Ev.extract ?_
  refine Seq.p rfl Ev.extract ?_
  refine Seq.p rfl Ev.extract ?_
  refine Seq.p rfl Ev.extract ?_
  refine Seq.p rfl Ev.assign ?_
  refine Seq.p rfl Ev.assign ?_
  refine Seq.p rfl Ev.assign ?_
  refine Seq.p rfl Ev.assign ?_
  refine Seq.nil ?_
  refine JC.seq ?_
  refine JC.rs ?_
  refine Seq.p rfl Ev.move ?_
  refine Seq.p rfl Ev.not ?_
  refine Seq.nil ?_
  first | refine JC.c (ht := fun c20 => ?_) (hf := fun c20 => ?_) | refine JC.cb (ht := fun c20 => ?_) (hf := fun c20 => ?_)
  · -- then_t20
    cases c20
  · -- else_t20
    refine JC.skip ?_
    refine JC.rs ?_
    refine Seq.p rfl Ev.move ?_
    refine Seq.call rfl (fun w hw => msgNumbers (RAt.up (RAt.box (enc := Fld.enc) (hs := by omega)) hw)) (F := _) (by exact List.Perm.refl _) ?_
    intro u N hN
    rw [NumsPost, if_neg hn] at hN
    subst hN
    refine Seq.p rfl Ev.move ?_
    refine Seq.p rfl Ev.extract ?_
    refine Seq.p rfl Ev.extract ?_
    refine Seq.p rfl Ev.assign ?_
    refine Seq.p rfl Ev.assign ?_
    refine Seq.nil ?_
    refine JC.seq ?_
    refine JC.qs mixed (by kernel_rfl) ?_
    refine Qui.p rfl Ev.move ?_
    refine Qui.p rfl Ev.not ?_
    refine Qui.p rfl Ev.move ?_
    refine Qui.split (d := 28) (k := ?_)
    rintro (_|_) h28
    · try simp only [decide_eq_true_eq, decide_eq_false_iff_not] at h28
      cases h28
    · try simp only [decide_eq_true_eq, decide_eq_false_iff_not] at h28
      refine Qui.gn rfl rfl rfl rfl ?_
      refine Qui.gn rfl rfl rfl rfl ?_
      refine Qui.gn rfl rfl rfl rfl ?_
      refine Qui.gn rfl rfl rfl rfl ?_
      refine Qui.gn rfl rfl rfl rfl ?_
      refine Qui.p rfl Ev.pickT ?_
      refine Qui.nil ?_
      refine JC.cT (h := ?_)
      refine JC.rs ?_
      refine Seq.p rfl Ev.assign ?_
      refine Seq.p rfl Ev.assign ?_
      refine Seq.p rfl Ev.assign ?_
      refine Seq.p rfl Ev.assign ?_
      refine Seq.p rfl Ev.assign ?_
      refine Seq.nil ?_
      refine JC.ret ?_
      -- return 0
      show retQ _ _ _ _ _ _ _ _
      refine retI (RVs.t (hs := (RVs.t (hs := (RVs.t (hs := (RVs.t (hs := (RVs.t (hs := RVs.nil)))))))))) (Part.nil _) ?_
      show ToldPost _ _ _
      rw [ToldPost, if_neg (by rw [hE]; decide), hE]
      rfl
set_option maxHeartbeats 2000000 in
theorem msgTold2 {w : World} {i : Input} {k : Int} {s : ByteArray} {fs : List Fld} (hF : fieldsF i = some (k, s, fs)) (hn : fs.all (·.fits) = true) : Spec Go.Proofs.Try.prog 14 #[.agg i.enc.toArray] w [] (ToldPost i) := by
  have hE : toldE i = if inputF k (numsF fs) = i then 0 else 40 := by
    unfold toldE
    rw [hF]
    simp only [hn, true_and]
  have hsm := fieldsF_small hF
  refine Spec.enter (fn := Go.Proofs.Try.f14) (n := 39) [.agg i.enc.toArray] Go.Proofs.Try.func14 (by kernel_rfl) rfl Go.Proofs.Try.ntmps14 Go.Proofs.Try.results14 rfl (Own.nil _) ?_
  refine JC.rs ?_
  refine Seq.box (cs := [_, _, _, _, _, _, _, _, _, _, _]) (k := ?_); intro b1
  refine Seq.p rfl Ev.assign ?_
  refine Seq.p rfl Ev.assign ?_
  refine Seq.p rfl Ev.assign ?_
  refine Seq.p rfl Ev.assign ?_
  refine Seq.p rfl Ev.assign ?_
  refine Seq.nil ?_
  refine JC.rs ?_
  refine Seq.p rfl (Ev.ldBA ag.api_Input) ?_
  refine Seq.call rfl (fun w hw => hF ▸ msgFieldsOf) (F := _) (by exact List.Perm.refl _) ?_
  rintro _ _ ⟨bf, rfl, rfl⟩
  refine Seq.p rfl Ev.move ?_
  refine Seq.p rfl Ev.extract ?_
  refine Seq.p rfl Ev.extract ?_
  refine Seq.p rfl Ev.extract ?_
  refine Seq.p rfl Ev.extract ?_
  refine Seq.p rfl Ev.assign ?_
  refine Seq.p rfl Ev.assign ?_
  refine Seq.p rfl Ev.assign ?_
  refine Seq.p rfl Ev.assign ?_
  refine Seq.nil ?_
  refine JC.seq ?_
  refine JC.rs ?_
  refine Seq.p rfl Ev.move ?_
  refine Seq.p rfl Ev.not ?_
  refine Seq.nil ?_
  first | refine JC.c (ht := fun c20 => ?_) (hf := fun c20 => ?_) | refine JC.cb (ht := fun c20 => ?_) (hf := fun c20 => ?_)
  · -- then_t20
    cases c20
  · -- else_t20
    refine JC.skip ?_
    refine JC.rs ?_
    refine Seq.p rfl Ev.move ?_
    refine Seq.call rfl (fun w hw => msgNumbers (RAt.up (RAt.box (enc := Fld.enc) (hs := by omega)) hw)) (F := _) (by exact List.Perm.refl _) ?_
    intro u N hN
    rw [NumsPost, if_pos hn] at hN
    obtain ⟨bn, rfl, rfl⟩ := hN
    refine Seq.p rfl Ev.move ?_
    refine Seq.p rfl Ev.extract ?_
    refine Seq.p rfl Ev.extract ?_
    refine Seq.p rfl Ev.assign ?_
    refine Seq.p rfl Ev.assign ?_
    refine Seq.nil ?_
    refine JC.seq ?_
    refine JC.qs mixed (by kernel_rfl) ?_
    refine Qui.p rfl Ev.move ?_
    refine Qui.p rfl Ev.not ?_
    refine Qui.p rfl Ev.move ?_
    refine Qui.split (d := 28) (k := ?_)
    rintro (_|_) h28
    · try simp only [decide_eq_true_eq, decide_eq_false_iff_not] at h28
      refine Qui.gy rfl rfl rfl ?_
      refine Qui.p rfl Ev.move ?_
      refine Qui.gy rfl rfl rfl ?_
      refine Qui.p rfl Ev.move ?_
      refine Qui.gy rfl rfl rfl ?_
      refine Qui.call rfl (fun w hw => msgInputOf (RM.up RM.own hw)) ?_
      refine Qui.gy rfl rfl rfl ?_
      refine Qui.p rfl (Ev.ldBA ag.api_Input) ?_
      refine Qui.gy rfl rfl rfl ?_
      refine Qui.p rfl (Ev.neAg so.api_Input ag.api_Input gd.api_Input) ?_
      refine Qui.p rfl Ev.pickF ?_
      refine Qui.nil ?_
      first | refine JC.c (ht := fun c34 => ?_) (hf := fun c34 => ?_) | refine JC.cb (ht := fun c34 => ?_) (hf := fun c34 => ?_)
      · -- then_t34
        have c35 : (!eqL (inputF k (numsF fs)).enc i.enc) = true := c34
        rw [Input.eqL_enc] at c35
        have hne : ¬ inputF k (numsF fs) = i := by simpa using c35
        rw [if_neg hne] at hE
        refine JC.rs ?_
        refine Seq.p rfl Ev.assign ?_
        refine Seq.p rfl Ev.assign ?_
        refine Seq.p rfl Ev.assign ?_
        refine Seq.p rfl Ev.assign ?_
        refine Seq.p rfl Ev.assign ?_
        refine Seq.nil ?_
        refine JC.ret ?_
        -- return 0
        show retQ _ _ _ _ _ _ _ _
        refine retI (RVs.t (hs := (RVs.t (hs := (RVs.t (hs := (RVs.t (hs := (RVs.t (hs := RVs.nil)))))))))) (Part.nil _) ?_
        show ToldPost _ _ _
        rw [ToldPost, if_neg (by rw [hE]; decide), hE]
        rfl
      · -- else_t34
        have c35 : (!eqL (inputF k (numsF fs)).enc i.enc) = false := c34
        rw [Input.eqL_enc] at c35
        have heq : inputF k (numsF fs) = i := by simpa using c35
        rw [if_pos heq] at hE
        refine JC.skip ?_
        refine JC.rs ?_
        refine Seq.p rfl Ev.move ?_
        refine Seq.p rfl Ev.move ?_
        refine Seq.p rfl Ev.move ?_
        refine Seq.p rfl Ev.move ?_
        refine Seq.p rfl Ev.assign ?_
        refine Seq.p rfl Ev.assign ?_
        refine Seq.p rfl Ev.assign ?_
        refine Seq.p rfl Ev.assign ?_
        refine Seq.p rfl Ev.assign ?_
        refine Seq.nil ?_
        refine JC.ret ?_
        -- return 1
        show retQ _ _ _ _ _ _ _ _
        refine retI (H' := [.mi bn .i64 .u64 (numsF fs), .box bf 79 (fs.flatMap Fld.enc)]) (RVs.t (hs := (RVs.t (hs := (RVs.t (hs := (RVs.t (hs := (RVs.t (hs := RVs.nil)))))))))) (Part.here (Part.here (Part.nil _))) ?_
        show ToldPost _ _ _
        rw [ToldPost, if_pos hE]
        exact ⟨k, s, fs, bf, bn, hF, rfl, rfl⟩
    · try simp only [decide_eq_true_eq, decide_eq_false_iff_not] at h28
      cases h28
theorem msgTold {w : World} {i : Input} : Spec Go.Proofs.Try.prog 14 #[.agg i.enc.toArray] w [] (ToldPost i) := by
  rcases hF : fieldsF i with _ | ⟨k, s, fs⟩
  · exact msgTold0 hF
  · by_cases hn : fs.all (·.fits) = true
    · exact msgTold2 hF hn
    · exact msgTold1 hF hn
structure Frame where
  kind : Int
  words : List Int
deriving DecidableEq, Inhabited
def Frame.enc (f : Frame) : List Value := .int .u8 f.kind :: f.words.map (Value.int .u64)
def frame0 : Frame := ⟨0, [0, 0, 0, 0, 0, 0, 0]⟩
def up (a n : Int) : Int := IntKind.u64.wrap (a * 2 ^ (min n.toNat IntKind.u64.bits))
def add64 (a b : Int) : Int := (a + b) % 18446744073709551616
def frameF (k : Int) (m : List (Int × Int)) : Frame :=
  ⟨k, [add64 (iget m 11) (iget m 9001), iget m 41, add64 (add64 (iget m 1) (up (iget m 54) 32)) (up (iget m 40) 40), iget m 44, iget m 38, iget m 210, 0]⟩
def packF (i : Input) : Frame × Int := if toldE i = 0 then (match fieldsF i with | some (k, s, fs) => frameF k (numsF fs) | none => frame0, 0) else (frame0, toldE i)
def packV (p : Frame × Int) : Value := .tuple #[.agg p.1.enc.toArray, .int .i64 p.2]
set_option maxHeartbeats 2000000 in
theorem msgPack0 {w : World} {i : Input} (hE : ¬ toldE i = 0) : Spec Go.Proofs.Try.prog 6 #[.agg i.enc.toArray] w [] (fun u _ => u = packV (packF i)) := by
  refine Spec.enter (fn := Go.Proofs.Try.f6) (n := 47) [.agg i.enc.toArray] Go.Proofs.Try.func6 (by kernel_rfl) rfl Go.Proofs.Try.ntmps6 Go.Proofs.Try.results6 rfl (Own.nil _) ?_
  refine JC.rs ?_
  refine Seq.box (cs := [_, _, _, _, _, _, _, _, _, _, _]) (k := ?_); intro b1
  refine Seq.alloc (cs := [_, _, _, _, _, _, _, _]) (hz := z.api_Frame) (k := ?_); intro b2
  refine Seq.p rfl Ev.assign ?_
  refine Seq.nil ?_
  refine JC.rs ?_
  refine Seq.p rfl (Ev.ldBA ag.api_Input) ?_
  refine Seq.call rfl (fun w hw => msgTold) (F := _) (by exact List.Perm.refl _) ?_
  intro u N hN
  rw [ToldPost, if_neg hE] at hN
  subst hN
  refine Seq.re (fun w h => h.part ⟨N, List.perm_append_comm⟩) ?_
  refine Seq.p rfl Ev.move ?_
  refine Seq.p rfl Ev.extract ?_
  refine Seq.p rfl Ev.extract ?_
  refine Seq.p rfl Ev.extract ?_
  refine Seq.p rfl Ev.extract ?_
  refine Seq.p rfl Ev.extract ?_
  refine Seq.p rfl Ev.assign ?_
  refine Seq.p rfl Ev.assign ?_
  refine Seq.p rfl Ev.assign ?_
  refine Seq.p rfl Ev.assign ?_
  refine Seq.p rfl Ev.assign ?_
  refine Seq.nil ?_
  refine JC.seq ?_
  refine JC.rs ?_
  refine Seq.p rfl Ev.move ?_
  refine Seq.p rfl Ev.ne ?_
  refine Seq.nil ?_
  first | refine JC.c (ht := fun c18 => ?_) (hf := fun c18 => ?_) | refine JC.cb (ht := fun c18 => ?_) (hf := fun c18 => ?_)
  · -- then_t18
    refine JC.rs ?_
    refine Seq.p rfl (Ev.buildN [_, _, _, _, _, _, _, _] pl.api_Frame z.api_Frame) ?_
    refine Seq.p rfl Ev.move ?_
    refine Seq.storeN [_, _, _, _, _, _, _, _] sz.api_Frame (k := ?_)
    refine Seq.p rfl Ev.assign ?_
    refine Seq.nil ?_
    refine JC.ret ?_
    -- return 0
    show retQ _ _ _ _ _ _ _ _
    refine retB2 ag.api_Frame (hp := Part.nil _) (hpost := ?_)
    rw [packF, if_neg hE]
    rfl
  · -- else_t18
    exact absurd hE c18
set_option maxHeartbeats 4000000 in
theorem msgPack1 {w : World} {i : Input} (hE : toldE i = 0) : Spec Go.Proofs.Try.prog 6 #[.agg i.enc.toArray] w [] (fun u _ => u = packV (packF i)) := by
  refine Spec.enter (fn := Go.Proofs.Try.f6) (n := 47) [.agg i.enc.toArray] Go.Proofs.Try.func6 (by kernel_rfl) rfl Go.Proofs.Try.ntmps6 Go.Proofs.Try.results6 rfl (Own.nil _) ?_
  refine JC.rs ?_
  refine Seq.box (cs := [_, _, _, _, _, _, _, _, _, _, _]) (k := ?_); intro b1
  refine Seq.alloc (cs := [_, _, _, _, _, _, _, _]) (hz := z.api_Frame) (k := ?_); intro b2
  refine Seq.p rfl Ev.assign ?_
  refine Seq.nil ?_
  refine JC.rs ?_
  refine Seq.p rfl (Ev.ldBA ag.api_Input) ?_
  refine Seq.call rfl (fun w hw => msgTold) (F := _) (by exact List.Perm.refl _) ?_
  intro u N hN
  rw [ToldPost, if_pos hE] at hN
  obtain ⟨k, s, fs, b1, b3, hF, rfl, rfl⟩ := hN
  refine Seq.p rfl Ev.move ?_
  refine Seq.p rfl Ev.extract ?_
  refine Seq.p rfl Ev.extract ?_
  refine Seq.p rfl Ev.extract ?_
  refine Seq.p rfl Ev.extract ?_
  refine Seq.p rfl Ev.extract ?_
  refine Seq.p rfl Ev.assign ?_
  refine Seq.p rfl Ev.assign ?_
  refine Seq.p rfl Ev.assign ?_
  refine Seq.p rfl Ev.assign ?_
  refine Seq.p rfl Ev.assign ?_
  refine Seq.nil ?_
  refine JC.seq ?_
  refine JC.rs ?_
  refine Seq.p rfl Ev.move ?_
  refine Seq.p rfl Ev.ne ?_
  refine Seq.nil ?_
  first | refine JC.c (ht := fun c18 => ?_) (hf := fun c18 => ?_) | refine JC.cb (ht := fun c18 => ?_) (hf := fun c18 => ?_)
  · -- then_t18
    exact absurd rfl c18
  · -- else_t18
    refine JC.skip ?_
    refine JC.rs ?_
    refine Seq.p rfl Ev.move ?_
    refine Seq.p rfl Ev.move ?_
    refine Seq.p rfl (Ev.mapI mp.m_int_uint64 z.uint64 RM.own) ?_
    refine Seq.p rfl Ev.move ?_
    refine Seq.p rfl (Ev.mapI mp.m_int_uint64 z.uint64 RM.own) ?_
    refine Seq.p rfl Ev.addU ?_
    refine Seq.p rfl Ev.move ?_
    refine Seq.p rfl (Ev.mapI mp.m_int_uint64 z.uint64 RM.own) ?_
    refine Seq.p rfl Ev.move ?_
    refine Seq.p rfl (Ev.mapI mp.m_int_uint64 z.uint64 RM.own) ?_
    refine Seq.p rfl Ev.move ?_
    refine Seq.p rfl (Ev.mapI mp.m_int_uint64 z.uint64 RM.own) ?_
    refine Seq.p rfl Ev.shlW ?_
    refine Seq.p rfl Ev.addU ?_
    refine Seq.p rfl Ev.move ?_
    refine Seq.p rfl (Ev.mapI mp.m_int_uint64 z.uint64 RM.own) ?_
    refine Seq.p rfl Ev.shlW ?_
    refine Seq.p rfl Ev.addU ?_
    refine Seq.p rfl Ev.move ?_
    refine Seq.p rfl (Ev.mapI mp.m_int_uint64 z.uint64 RM.own) ?_
    refine Seq.p rfl Ev.move ?_
    refine Seq.p rfl (Ev.mapI mp.m_int_uint64 z.uint64 RM.own) ?_
    refine Seq.p rfl Ev.move ?_
    refine Seq.p rfl (Ev.mapI mp.m_int_uint64 z.uint64 RM.own) ?_
    refine Seq.p rfl (Ev.buildArrN [_, _, _, _, _, _, _] ar.a7_uint64 z.a7_uint64) ?_
    refine Seq.p rfl (Ev.buildN [_, _, _, _, _, _, _, _] pl.api_Frame z.api_Frame) ?_
    refine Seq.storeN [_, _, _, _, _, _, _, _] sz.api_Frame (k := ?_)
    refine Seq.p rfl Ev.assign ?_
    refine Seq.nil ?_
    refine JC.ret ?_
    -- return 0
    show retQ _ _ _ _ _ _ _ _
    refine retB2 ag.api_Frame (hp := Part.nil _) (hpost := ?_)
    rw [packF, if_pos hE, hF]
    rfl
theorem msgPack {w : World} {i : Input} : Spec Go.Proofs.Try.prog 6 #[.agg i.enc.toArray] w [] (fun u _ => u = packV (packF i)) := by
  by_cases hE : toldE i = 0
  · exact msgPack1 hE
  · exact msgPack0 hE
end Go.Rx
