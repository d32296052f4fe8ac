/- A part of the proof: the text N1. -/
import Derived.Test.YtdfleghechbcpaaM8
namespace Go.Rx
open Go Go.RowKit
set_option linter.unusedVariables false
set_option linter.unusedSimpArgs false
def andU (a b : Int) : Int := IntKind.u64.wrap ((BitVec.ofInt IntKind.u64.bits a &&& BitVec.ofInt IntKind.u64.bits b).toNat : Nat)
def down (a n : Int) : Int := a / 2 ^ (min n.toNat IntKind.u64.bits)
def someF (fs : List Fld) (m : List (Int × Int)) : List (Int × Int) := fs.foldl (fun r f => iput r f.tag (iget m f.tag)) []
theorem someF_snoc (fs : List Fld) (m : List (Int × Int)) (i : Nat) (h : i < fs.length) : someF (fs.take (i + 1)) m = iput (someF (fs.take i) m) fs[i]!.tag (iget m fs[i]!.tag) := by
  have : fs.take (i + 1) = fs.take i ++ [fs[i]!] := by
    rw [List.take_succ_eq_append_getElem h, getElem!_pos fs i h]
  rw [this]
  unfold someF
  rw [List.foldl_append]
  rfl
def MapPost (m : List (Int × Int)) (u : Value) (N : List Chunk) : Prop := ∃ b, u = .map (some b) ∧ N = [.mi b .i64 .u64 m]
set_option maxHeartbeats 1000000 in
theorem msgSome {w : World} {v vm : Value} {fs : List Fld} {m : List (Int × Int)} (hs : RSl Fld.enc 3 w [] v fs) (hm : RMp .i64 .u64 w [] vm m) : Spec Go.Proofs.Try.prog 24 #[v, vm] w [] (MapPost (someF fs m)) := by
  have hsm := hs.small
  refine Spec.enter (fn := Go.Proofs.Try.f24) (n := 24) [v, vm] Go.Proofs.Try.func24 (by kernel_rfl) rfl Go.Proofs.Try.ntmps24 Go.Proofs.Try.results24 rfl (Own.nil _) ?_
  refine JC.rs ?_
  refine Seq.p rfl Ev.assign ?_
  refine Seq.nil ?_
  refine JC.rs ?_
  refine Seq.mkMapI .i64 .u64 (k := ?_); intro b8
  refine Seq.p rfl Ev.assign ?_
  refine Seq.nil ?_
  refine JC.seq ?_
  refine JC.rs ?_
  refine Seq.p rfl Ev.move ?_
  refine Seq.p rfl (Ev.lenSl sl.sl_message_field (hr := hs.r)) ?_
  refine Seq.p rfl Ev.move ?_
  refine Seq.nil ?_
  refine JC.blk ?_
  refine JC.loop (α := Nat) (I := fun i e1 H1 => Has [7, 11, 12, 13, 14, 15, 16, 17, 18, 19, 20, 21, 22] [(11, .int .i64 (i : Int))] _ e1 ∧ H1 = [.mi b8 .i64 .u64 (someF (fs.take i) m)] ∧ i ≤ fs.length) (μ := fun i => fs.length - i) 0 ⟨Has.mk Off.refl (allLook_cons (by repeat (first | exact Look.here | apply Look.there (hne := rfl) | exact Look.const | apply Look.mix rfl | exact Look.arg0 | apply Look.args | exact Look.func)) allLook_nil), rfl, by omega⟩ ?_
  rintro i _ _ ⟨⟨ui, rfl⟩, rfl, hi⟩; dsimp only [setL]
  refine JC.rs ?_
  refine Seq.p rfl Ev.lt ?_
  refine Seq.nil ?_
  refine JC.seq ?_
  first | refine JC.c (ht := fun c12 => ?_) (hf := fun c12 => ?_) | refine JC.cb (ht := fun c12 => ?_) (hf := fun c12 => ?_)
  · -- then_t12
    have hi2 : i < fs.length := by omega
    refine JC.skip ?_
    refine JC.seq ?_
    refine JC.blk ?_
    refine JC.rs ?_
    refine Seq.p rfl (Ev.iaN sl.sl_message_field (hr := hs.r)) ?_
    refine Seq.p rfl (Ev.ldEA ag.message_field (hr := hs.r)) ?_
    refine Seq.alloc (cs := [_, _, _]) (hz := z.message_field) (k := ?_); intro b7
    refine Seq.storeN [_, _, _] sz.message_field (k := ?_)
    refine Seq.nil ?_
    refine JC.reg ?_
    refine Seq.p rfl Ev.move ?_
    refine Seq.p rfl (Ev.faB fd.message_field_0) ?_
    refine Seq.p rfl (Ev.ldB sc.int) ?_
    refine Seq.p rfl Ev.move ?_
    refine Seq.p rfl (Ev.faB fd.message_field_0) ?_
    refine Seq.p rfl (Ev.ldB sc.int) ?_
    refine Seq.p rfl (Ev.mapI mp.m_int_uint64 z.uint64 hm.r) ?_
    refine Seq.mapPutI mp.m_int_uint64 (kk' := ?_)
    refine Seq.nil ?_
    refine JC.reg ?_
    refine Seq.p rfl (by first | exact Ev.inc | exact Ev.add) ?_
    refine Seq.p rfl Ev.move ?_
    refine Seq.nil ?_
    exact ⟨i + 1, _, Part.skip (Part.refl _), ⟨Has.mk (by repeat (first | refine Off.upd ?_ rfl | exact Off.mix | refine Off.mix2 ?_ rfl | exact Off.refl)) (allLook_cons (by repeat (first | exact Look.here | apply Look.there (hne := rfl) | exact Look.const | apply Look.mix rfl | exact Look.arg0 | apply Look.args | exact Look.func)) allLook_nil), by rw [someF_snoc fs m i hi2]; rfl, by omega⟩, by omega⟩
  · -- else_t12
    obtain rfl : i = fs.length := by omega
    refine JC.exit ?_ -- 0
    refine JC.rs ?_
    refine Seq.p rfl Ev.move ?_
    refine Seq.p rfl Ev.assign ?_
    refine Seq.nil ?_
    refine JC.ret ?_
    -- return 0
    show retQ _ _ _ _ _ _ _ _
    refine ret1 (hp := Part.refl _) (hpost := ?_)
    exact ⟨b8, rfl, by rw [List.take_length]⟩
def blankFs (k : Int) : List Fld := match fieldsF (inputF k []) with | some (_, _, fs) => fs | none => []
theorem blank_some {k : Int} (hk : 1 ≤ k ∧ k ≤ 4) : ∃ a s, fieldsF (inputF k []) = some (a, s, blankFs k) := by
  have : k = 1 ∨ k = 2 ∨ k = 3 ∨ k = 4 := by omega
  rcases this with rfl | rfl | rfl | rfl <;> exact ⟨_, _, rfl⟩
set_option maxHeartbeats 1000000 in
theorem msgOnly {w : World} {k : Int} {vm : Value} {m : List (Int × Int)} (hk : 1 ≤ k ∧ k ≤ 4) (hm : RMp .i64 .u64 w [] vm m) : Spec Go.Proofs.Try.prog 28 #[.int .u8 k, vm] w [] (MapPost (someF (blankFs k) m)) := by
  obtain ⟨a, s, hF⟩ := blank_some hk
  have hsm := fieldsF_small hF
  generalize blankFs k = fs at hF hsm
  refine Spec.enter (fn := Go.Proofs.Try.f28) (n := 22) [.int .u8 k, vm] Go.Proofs.Try.func28 (by kernel_rfl) rfl Go.Proofs.Try.ntmps28 Go.Proofs.Try.results28 rfl (Own.nil _) ?_
  refine JC.rs ?_
  refine Seq.p rfl Ev.assign ?_
  refine Seq.nil ?_
  refine JC.rs ?_
  refine Seq.p rfl Ev.move ?_
  refine Seq.callP rfl (fun w hw => msgInputOf (RMp.nil _ _ _ _)) ?_
  refine Seq.alloc (cs := [_, _, _, _, _, _, _, _, _, _, _]) (hz := z.api_Input) (k := ?_); intro b5
  refine Seq.storeN [_, _, _, _, _, _, _, _, _, _, _] sz.api_Input (k := ?_)
  refine Seq.nil ?_
  refine JC.rs ?_
  refine Seq.p rfl (Ev.ldBA ag.api_Input) ?_
  refine Seq.call rfl (fun w hw => hF ▸ msgFieldsOf) (F := _) (by exact List.Perm.refl _) ?_
  rintro _ _ ⟨bf, rfl, rfl⟩
  refine Seq.p rfl Ev.move ?_
  refine Seq.p rfl Ev.extract ?_
  refine Seq.p rfl Ev.extract ?_
  refine Seq.p rfl Ev.extract ?_
  refine Seq.p rfl Ev.extract ?_
  refine Seq.p rfl Ev.assign ?_
  refine Seq.p rfl Ev.assign ?_
  refine Seq.p rfl Ev.assign ?_
  refine Seq.p rfl Ev.assign ?_
  refine Seq.nil ?_
  refine JC.rs ?_
  refine Seq.p rfl Ev.move ?_
  refine Seq.p rfl Ev.move ?_
  refine Seq.call rfl (fun w hw => msgSome (RAt.up (RAt.box (enc := Fld.enc) (hs := by omega)) hw) (hm.up hw)) (F := _) (by exact List.Perm.refl _) ?_
  rintro _ _ ⟨bm, rfl, rfl⟩
  refine Seq.p rfl Ev.assign ?_
  refine Seq.nil ?_
  refine JC.ret ?_
  -- return 0
  show retQ _ _ _ _ _ _ _ _
  refine ret1 (hp := Part.here (Part.nil _)) (hpost := ?_)
  exact ⟨bm, rfl, rfl⟩
def wordsM (ws : List Int) : List (Int × Int) :=
  [(11, ws[0]!), (9001, ws[0]!), (41, ws[1]!), (1, andU ws[2]! 4294967295), (54, andU (down ws[2]! 32) 255), (40, andU (down ws[2]! 40) 255), (44, andU ws[3]! 4294967295), (38, ws[4]!), (210, ws[5]!)]
theorem of_ndec {p : Prop} [Decidable p] (h : (!decide p) = false) : p := by
  by_cases hp : p
  · exact hp
  · rw [decide_eq_false hp] at h; cases h
def frV (k g0 g1 g2 g3 g4 g5 g6 : Int) : List Value := [.int .u8 k, .int .u64 g0, .int .u64 g1, .int .u64 g2, .int .u64 g3, .int .u64 g4, .int .u64 g5, .int .u64 g6]
def input0 : Input := ⟨0, 0, 0, 0, 0, 0, 0, 0, 0, 0, 0⟩
def unpackI (f : Frame) : Input := inputF f.kind (someF (blankFs f.kind) (wordsM f.words))
def unpackF (f : Frame) : Input × Int := if f.kind < 1 ∨ 4 < f.kind then (input0, 41) else if (packF (unpackI f)).2 = 0 ∧ (packF (unpackI f)).1 = f then (unpackI f, 0) else (input0, 40)
def unpackV (p : Input × Int) : Value := .tuple #[.agg p.1.enc.toArray, .int .i64 p.2]
theorem Frame.eqL_enc (k k' : Int) (a0 a1 a2 a3 a4 a5 a6 g0 g1 g2 g3 g4 g5 g6 : Int) : eqL (Frame.enc ⟨k, [a0, a1, a2, a3, a4, a5, a6]⟩) (Frame.enc ⟨k', [g0, g1, g2, g3, g4, g5, g6]⟩) = decide ((⟨k, [a0, a1, a2, a3, a4, a5, a6]⟩ : Frame) = ⟨k', [g0, g1, g2, g3, g4, g5, g6]⟩) := by
  simp [Frame.enc, eqL, eqV, Bool.decide_and]
theorem msgUnpackInput {w : World} {k : Int} {bs : List Int} {vm : Value} (hm : RMp .i64 .u64 w [] vm (someF (blankFs k) (wordsM bs))) : Spec Go.Proofs.Try.prog 27 #[.int .u8 k, vm] w [] (fun u _ => u = .agg (unpackI ⟨k, bs⟩).enc.toArray) := msgInputOf hm
set_option maxHeartbeats 4000000 in
set_option maxRecDepth 100000 in
theorem msgUnpack {w : World} {k g0 g1 g2 g3 g4 g5 g6 : Int} : Spec Go.Proofs.Try.prog 12 #[.agg (frV k g0 g1 g2 g3 g4 g5 g6).toArray] w [] (fun u _ => u = unpackV (unpackF ⟨k, [g0, g1, g2, g3, g4, g5, g6]⟩)) := by
  generalize hx : unpackI ⟨k, [g0, g1, g2, g3, g4, g5, g6]⟩ = x
  obtain ⟨a0, a1, a2, a3, a4, a5, a6, h7⟩ := list7 (packF_len x)
  have hP : packF x = (⟨(packF x).1.kind, [a0, a1, a2, a3, a4, a5, a6]⟩, (packF x).2) := by rw [← h7]
  generalize hkk : (packF x).1.kind = kk at hP
  generalize hee : (packF x).2 = ee at hP
  refine Spec.enter (fn := Go.Proofs.Try.f12) (n := 67) [.agg (frV k g0 g1 g2 g3 g4 g5 g6).toArray] Go.Proofs.Try.func12 (by kernel_rfl) rfl Go.Proofs.Try.ntmps12 Go.Proofs.Try.results12 rfl (Own.nil _) ?_
  refine JC.rs ?_
  refine Seq.box (cs := [_, _, _, _, _, _, _, _]) (k := ?_); intro b1
  refine Seq.alloc (cs := [_, _, _, _, _, _, _, _, _, _, _]) (hz := z.api_Input) (k := ?_); intro b2
  refine Seq.p rfl Ev.assign ?_
  refine Seq.nil ?_
  refine JC.seq ?_
  refine JC.rs ?_
  refine Seq.p rfl (Ev.faB fd.api_Frame_0) ?_
  refine Seq.p rfl (Ev.ldB sc.uint8) ?_
  refine Seq.p rfl Ev.lt ?_
  refine Seq.p rfl Ev.move ?_
  refine Seq.split (d := 12) (k := ?_)
  rintro (_|_) h12
  · try simp only [decide_eq_true_eq, decide_eq_false_iff_not] at h12
    refine Seq.gy rfl rfl rfl ?_
    refine Seq.p rfl (Ev.faB fd.api_Frame_0) ?_
    refine Seq.gy rfl rfl rfl ?_
    refine Seq.p rfl (Ev.ldB sc.uint8) ?_
    refine Seq.gy rfl rfl rfl ?_
    refine Seq.p rfl Ev.gt ?_
    refine Seq.p rfl Ev.pickF ?_
    refine Seq.nil ?_
    first | refine JC.c (ht := fun c16 => ?_) (hf := fun c16 => ?_) | refine JC.cb (ht := fun c16 => ?_) (hf := fun c16 => ?_)
    · -- then_t16
      refine JC.rs ?_
      refine Seq.p rfl (Ev.buildN [_, _, _, _, _, _, _, _, _, _, _] pl.api_Input z.api_Input) ?_
      refine Seq.storeN [_, _, _, _, _, _, _, _, _, _, _] sz.api_Input (k := ?_)
      refine Seq.p rfl Ev.assign ?_
      refine Seq.nil ?_
      refine JC.ret ?_
      -- return 0
      show retQ _ _ _ _ _ _ _ _
      refine retB2 ag.api_Input (hp := Part.nil _) (hpost := ?_)
      rw [unpackF, if_pos (Or.inr c16)]
      rfl
    · -- else_t16
      have hng : ¬ (k < 1 ∨ 4 < k) := by omega
      refine JC.skip ?_
      refine JC.rs ?_
      refine Seq.p rfl (Ev.faB fd.api_Frame_1) ?_
      refine Seq.p rfl (Ev.ldBPN [_, _, _, _, _, _, _] ag.a7_uint64) ?_
      refine Seq.alloc (cs := [_, _, _, _, _, _, _]) (hz := z.a7_uint64) (k := ?_); intro b4
      refine Seq.storeN [_, _, _, _, _, _, _] sz.a7_uint64 (k := ?_)
      refine Seq.nil ?_
      refine JC.rs ?_
      refine Seq.mkMapI .i64 .u64 (k := ?_); intro b20
      refine Seq.p rfl (Ev.iaArrB ar.a7_uint64) ?_
      refine Seq.p rfl (Ev.ldB sc.uint64) ?_
      refine Seq.mapInsI mp.m_int_uint64 (kk' := ?_)
      refine Seq.p rfl (Ev.iaArrB ar.a7_uint64) ?_
      refine Seq.p rfl (Ev.ldB sc.uint64) ?_
      refine Seq.mapInsI mp.m_int_uint64 (kk' := ?_)
      refine Seq.p rfl (Ev.iaArrB ar.a7_uint64) ?_
      refine Seq.p rfl (Ev.ldB sc.uint64) ?_
      refine Seq.mapInsI mp.m_int_uint64 (kk' := ?_)
      refine Seq.p rfl (Ev.iaArrB ar.a7_uint64) ?_
      refine Seq.p rfl (Ev.ldB sc.uint64) ?_
      refine Seq.p rfl (Ev.bits (k := .u64) (· &&& ·) (.inl ⟨rfl, rfl⟩)) ?_
      refine Seq.mapInsI mp.m_int_uint64 (kk' := ?_)
      refine Seq.p rfl (Ev.iaArrB ar.a7_uint64) ?_
      refine Seq.p rfl (Ev.ldB sc.uint64) ?_
      refine Seq.p rfl Ev.shrW ?_
      refine Seq.p rfl (Ev.bits (k := .u64) (· &&& ·) (.inl ⟨rfl, rfl⟩)) ?_
      refine Seq.mapInsI mp.m_int_uint64 (kk' := ?_)
      refine Seq.p rfl (Ev.iaArrB ar.a7_uint64) ?_
      refine Seq.p rfl (Ev.ldB sc.uint64) ?_
      refine Seq.p rfl Ev.shrW ?_
      refine Seq.p rfl (Ev.bits (k := .u64) (· &&& ·) (.inl ⟨rfl, rfl⟩)) ?_
      refine Seq.mapInsI mp.m_int_uint64 (kk' := ?_)
      refine Seq.p rfl (Ev.iaArrB ar.a7_uint64) ?_
      refine Seq.p rfl (Ev.ldB sc.uint64) ?_
      refine Seq.p rfl (Ev.bits (k := .u64) (· &&& ·) (.inl ⟨rfl, rfl⟩)) ?_
      refine Seq.mapInsI mp.m_int_uint64 (kk' := ?_)
      refine Seq.p rfl (Ev.iaArrB ar.a7_uint64) ?_
      refine Seq.p rfl (Ev.ldB sc.uint64) ?_
      refine Seq.mapInsI mp.m_int_uint64 (kk' := ?_)
      refine Seq.p rfl (Ev.iaArrB ar.a7_uint64) ?_
      refine Seq.p rfl (Ev.ldB sc.uint64) ?_
      refine Seq.mapInsI mp.m_int_uint64 (kk' := ?_)
      refine Seq.p rfl Ev.move ?_
      refine Seq.p rfl Ev.assign ?_
      refine Seq.nil ?_
      refine JC.as mixed ?_
      refine Any.p 0 rfl (by kernel_rfl) (by kernel_rfl) (by kernel_rfl) rfl (Ev.faB fd.api_Frame_0) ?_
      refine Any.p 1 rfl (by kernel_rfl) (by kernel_rfl) (by kernel_rfl) rfl (Ev.ldB sc.uint8) ?_
      refine Any.p 2 rfl (by kernel_rfl) (by kernel_rfl) (by kernel_rfl) rfl (Ev.faB fd.api_Frame_0) ?_
      refine Any.p 3 rfl (by kernel_rfl) (by kernel_rfl) (by kernel_rfl) rfl (Ev.ldB sc.uint8) ?_
      refine Any.p 4 rfl (by kernel_rfl) (by kernel_rfl) (by kernel_rfl) rfl Ev.move ?_
      refine Any.two 5 7 rfl rfl (by kernel_rfl) ?_ ?_
      · -- first 5
        refine Seq.call rfl (fun w hw => msgOnly (m := wordsM [g0, g1, g2, g3, g4, g5, g6]) (by omega) (RM.up RM.own hw)) (F := _) (by exact List.Perm.refl _) ?_
        rintro _ _ ⟨bm, rfl, rfl⟩
        refine Seq.nil ⟨(by repeat (first | exact Part.refl _ | exact Part.nil _ | apply Part.here | apply Part.skip)), ?_⟩
        refine Any.two 6 7 rfl rfl (by kernel_rfl) ?_ ?_
        · -- first 6
          refine Seq.callP rfl (fun w hw => hx ▸ msgUnpackInput (bs := [g0, g1, g2, g3, g4, g5, g6]) (RM.up RM.own hw)) ?_
          refine Seq.nil ⟨(by repeat (first | exact Part.refl _ | exact Part.nil _ | apply Part.here | apply Part.skip)), ?_⟩
          refine Any.one 7 rfl (by kernel_rfl) ?_
          refine Seq.alloc (cs := [_, _, _, _, _, _, _, _, _, _, _]) (hz := z.api_Input) (k := ?_); intro b6
          refine Seq.nil ⟨(by repeat (first | exact Part.refl _ | exact Part.nil _ | apply Part.here | apply Part.skip)), ?_⟩
          refine Any.one 8 rfl (by kernel_rfl) ?_
          refine Seq.storeN [_, _, _, _, _, _, _, _, _, _, _] sz.api_Input (k := ?_)
          refine Seq.nil ⟨(by repeat (first | exact Part.refl _ | exact Part.nil _ | apply Part.here | apply Part.skip)), ?_⟩
          refine Any.done (by kernel_rfl) ?_
          refine JC.seq ?_
          refine JC.rs ?_
          refine Seq.p rfl (Ev.ldBA ag.api_Input) ?_
          refine Seq.callP rfl (fun w hw => hP ▸ msgPack) ?_
          refine Seq.p rfl Ev.move ?_
          refine Seq.p rfl Ev.extract ?_
          refine Seq.p rfl Ev.extract ?_
          refine Seq.alloc (cs := [_, _, _, _, _, _, _, _]) (hz := z.api_Frame) (k := ?_); intro b7
          refine Seq.storeN [_, _, _, _, _, _, _, _] sz.api_Frame (k := ?_)
          refine Seq.p rfl Ev.assign ?_
          refine Seq.nil ?_
          refine JC.rs ?_
          refine Seq.p rfl Ev.move ?_
          refine Seq.p rfl Ev.ne ?_
          refine Seq.p rfl Ev.move ?_
          refine Seq.split (d := 60) (k := ?_)
          rintro (_|_) h60
          · try simp only [decide_eq_true_eq, decide_eq_false_iff_not] at h60
            refine Seq.gy rfl rfl rfl ?_
            refine Seq.p rfl (Ev.ldBA ag.api_Frame) ?_
            refine Seq.gy rfl rfl rfl ?_
            refine Seq.p rfl (Ev.ldBA ag.api_Frame) ?_
            refine Seq.gy rfl rfl rfl ?_
            refine Seq.p rfl (Ev.neAg so.api_Frame ag.api_Frame gd.api_Frame) ?_
            refine Seq.p rfl Ev.pickF ?_
            refine Seq.nil ?_
            first | refine JC.c (ht := fun c64 => ?_) (hf := fun c64 => ?_) | refine JC.cb (ht := fun c64 => ?_) (hf := fun c64 => ?_)
            · -- then_t64
              refine JC.rs ?_
              refine Seq.p rfl (Ev.buildN [_, _, _, _, _, _, _, _, _, _, _] pl.api_Input z.api_Input) ?_
              refine Seq.storeN [_, _, _, _, _, _, _, _, _, _, _] sz.api_Input (k := ?_)
              refine Seq.p rfl Ev.assign ?_
              refine Seq.nil ?_
              refine JC.ret ?_
              -- return 1
              show retQ _ _ _ _ _ _ _ _
              refine retB2 ag.api_Input (hp := Part.nil _) (hpost := ?_)
              have c65 : (!eqL (Frame.enc ⟨kk, [a0, a1, a2, a3, a4, a5, a6]⟩) (Frame.enc ⟨k, [g0, g1, g2, g3, g4, g5, g6]⟩)) = true := c64
              rw [Frame.eqL_enc] at c65
              have hne : ¬ ((⟨kk, [a0, a1, a2, a3, a4, a5, a6]⟩ : Frame) = ⟨k, [g0, g1, g2, g3, g4, g5, g6]⟩) := by intro he; rw [decide_eq_true he] at c65; cases c65
              rw [unpackF, if_neg hng, hx, hP, if_neg (fun h => hne h.2)]
              rfl
            · -- else_t64
              refine JC.skip ?_
              refine JC.rs ?_
              refine Seq.p rfl (Ev.ldBA ag.api_Input) ?_
              refine Seq.storeN [_, _, _, _, _, _, _, _, _, _, _] sz.api_Input (k := ?_)
              refine Seq.p rfl Ev.assign ?_
              refine Seq.nil ?_
              refine JC.ret ?_
              -- return 2
              show retQ _ _ _ _ _ _ _ _
              refine retB2 ag.api_Input (hp := Part.nil _) (hpost := ?_)
              have c65 : (!eqL (Frame.enc ⟨kk, [a0, a1, a2, a3, a4, a5, a6]⟩) (Frame.enc ⟨k, [g0, g1, g2, g3, g4, g5, g6]⟩)) = false := c64
              rw [Frame.eqL_enc] at c65
              have heq : ((⟨kk, [a0, a1, a2, a3, a4, a5, a6]⟩ : Frame) = ⟨k, [g0, g1, g2, g3, g4, g5, g6]⟩) := of_ndec c65
              rw [unpackF, if_neg hng, hx, hP, if_pos ⟨Classical.not_not.1 h60, heq⟩]
              rfl
          · try simp only [decide_eq_true_eq, decide_eq_false_iff_not] at h60
            refine Seq.gn rfl rfl rfl rfl ?_
            refine Seq.gn rfl rfl rfl rfl ?_
            refine Seq.gn rfl rfl rfl rfl ?_
            refine Seq.p rfl Ev.pickT ?_
            refine Seq.nil ?_
            refine JC.cT (h := ?_)
            refine JC.rs ?_
            refine Seq.p rfl (Ev.buildN [_, _, _, _, _, _, _, _, _, _, _] pl.api_Input z.api_Input) ?_
            refine Seq.storeN [_, _, _, _, _, _, _, _, _, _, _] sz.api_Input (k := ?_)
            refine Seq.p rfl Ev.assign ?_
            refine Seq.nil ?_
            refine JC.ret ?_
            -- return 3
            show retQ _ _ _ _ _ _ _ _
            refine retB2 ag.api_Input (hp := Part.nil _) (hpost := ?_)
            rw [unpackF, if_neg hng, hx, hP, if_neg (fun h => h60 h.1)]
            rfl
        · -- first 7
          refine Seq.alloc (cs := [_, _, _, _, _, _, _, _, _, _, _]) (hz := z.api_Input) (k := ?_); intro b6
          refine Seq.nil ⟨(by repeat (first | exact Part.refl _ | exact Part.nil _ | apply Part.here | apply Part.skip)), ?_⟩
          refine Any.one 6 rfl (by kernel_rfl) ?_
          refine Seq.callP rfl (fun w hw => hx ▸ msgUnpackInput (bs := [g0, g1, g2, g3, g4, g5, g6]) (RM.up RM.own hw)) ?_
          refine Seq.nil ⟨(by repeat (first | exact Part.refl _ | exact Part.nil _ | apply Part.here | apply Part.skip)), ?_⟩
          refine Any.one 8 rfl (by kernel_rfl) ?_
          refine Seq.storeN [_, _, _, _, _, _, _, _, _, _, _] sz.api_Input (k := ?_)
          refine Seq.nil ⟨(by repeat (first | exact Part.refl _ | exact Part.nil _ | apply Part.here | apply Part.skip)), ?_⟩
          refine Any.done (by kernel_rfl) ?_
          refine JC.seq ?_
          refine JC.rs ?_
          refine Seq.p rfl (Ev.ldBA ag.api_Input) ?_
          refine Seq.callP rfl (fun w hw => hP ▸ msgPack) ?_
          refine Seq.p rfl Ev.move ?_
          refine Seq.p rfl Ev.extract ?_
          refine Seq.p rfl Ev.extract ?_
          refine Seq.alloc (cs := [_, _, _, _, _, _, _, _]) (hz := z.api_Frame) (k := ?_); intro b7
          refine Seq.storeN [_, _, _, _, _, _, _, _] sz.api_Frame (k := ?_)
          refine Seq.p rfl Ev.assign ?_
          refine Seq.nil ?_
          refine JC.rs ?_
          refine Seq.p rfl Ev.move ?_
          refine Seq.p rfl Ev.ne ?_
          refine Seq.p rfl Ev.move ?_
          refine Seq.split (d := 60) (k := ?_)
          rintro (_|_) h60
          · try simp only [decide_eq_true_eq, decide_eq_false_iff_not] at h60
            refine Seq.gy rfl rfl rfl ?_
            refine Seq.p rfl (Ev.ldBA ag.api_Frame) ?_
            refine Seq.gy rfl rfl rfl ?_
            refine Seq.p rfl (Ev.ldBA ag.api_Frame) ?_
            refine Seq.gy rfl rfl rfl ?_
            refine Seq.p rfl (Ev.neAg so.api_Frame ag.api_Frame gd.api_Frame) ?_
            refine Seq.p rfl Ev.pickF ?_
            refine Seq.nil ?_
            first | refine JC.c (ht := fun c64 => ?_) (hf := fun c64 => ?_) | refine JC.cb (ht := fun c64 => ?_) (hf := fun c64 => ?_)
            · -- then_t64
              refine JC.rs ?_
              refine Seq.p rfl (Ev.buildN [_, _, _, _, _, _, _, _, _, _, _] pl.api_Input z.api_Input) ?_
              refine Seq.storeN [_, _, _, _, _, _, _, _, _, _, _] sz.api_Input (k := ?_)
              refine Seq.p rfl Ev.assign ?_
              refine Seq.nil ?_
              refine JC.ret ?_
              -- return 4
              show retQ _ _ _ _ _ _ _ _
              refine retB2 ag.api_Input (hp := Part.nil _) (hpost := ?_)
              have c65 : (!eqL (Frame.enc ⟨kk, [a0, a1, a2, a3, a4, a5, a6]⟩) (Frame.enc ⟨k, [g0, g1, g2, g3, g4, g5, g6]⟩)) = true := c64
              rw [Frame.eqL_enc] at c65
              have hne : ¬ ((⟨kk, [a0, a1, a2, a3, a4, a5, a6]⟩ : Frame) = ⟨k, [g0, g1, g2, g3, g4, g5, g6]⟩) := by intro he; rw [decide_eq_true he] at c65; cases c65
              rw [unpackF, if_neg hng, hx, hP, if_neg (fun h => hne h.2)]
              rfl
            · -- else_t64
              refine JC.skip ?_
              refine JC.rs ?_
              refine Seq.p rfl (Ev.ldBA ag.api_Input) ?_
              refine Seq.storeN [_, _, _, _, _, _, _, _, _, _, _] sz.api_Input (k := ?_)
              refine Seq.p rfl Ev.assign ?_
              refine Seq.nil ?_
              refine JC.ret ?_
              -- return 5
              show retQ _ _ _ _ _ _ _ _
              refine retB2 ag.api_Input (hp := Part.nil _) (hpost := ?_)
              have c65 : (!eqL (Frame.enc ⟨kk, [a0, a1, a2, a3, a4, a5, a6]⟩) (Frame.enc ⟨k, [g0, g1, g2, g3, g4, g5, g6]⟩)) = false := c64
              rw [Frame.eqL_enc] at c65
              have heq : ((⟨kk, [a0, a1, a2, a3, a4, a5, a6]⟩ : Frame) = ⟨k, [g0, g1, g2, g3, g4, g5, g6]⟩) := of_ndec c65
              rw [unpackF, if_neg hng, hx, hP, if_pos ⟨Classical.not_not.1 h60, heq⟩]
              rfl
          · try simp only [decide_eq_true_eq, decide_eq_false_iff_not] at h60
            refine Seq.gn rfl rfl rfl rfl ?_
            refine Seq.gn rfl rfl rfl rfl ?_
            refine Seq.gn rfl rfl rfl rfl ?_
            refine Seq.p rfl Ev.pickT ?_
            refine Seq.nil ?_
            refine JC.cT (h := ?_)
            refine JC.rs ?_
            refine Seq.p rfl (Ev.buildN [_, _, _, _, _, _, _, _, _, _, _] pl.api_Input z.api_Input) ?_
            refine Seq.storeN [_, _, _, _, _, _, _, _, _, _, _] sz.api_Input (k := ?_)
            refine Seq.p rfl Ev.assign ?_
            refine Seq.nil ?_
            refine JC.ret ?_
            -- return 6
            show retQ _ _ _ _ _ _ _ _
            refine retB2 ag.api_Input (hp := Part.nil _) (hpost := ?_)
            rw [unpackF, if_neg hng, hx, hP, if_neg (fun h => h60 h.1)]
            rfl
      · -- first 7
        refine Seq.alloc (cs := [_, _, _, _, _, _, _, _, _, _, _]) (hz := z.api_Input) (k := ?_); intro b6
        refine Seq.nil ⟨(by repeat (first | exact Part.refl _ | exact Part.nil _ | apply Part.here | apply Part.skip)), ?_⟩
        refine Any.one 5 rfl (by kernel_rfl) ?_
        refine Seq.call rfl (fun w hw => msgOnly (m := wordsM [g0, g1, g2, g3, g4, g5, g6]) (by omega) (RM.up RM.own hw)) (F := _) (by exact List.Perm.refl _) ?_
        rintro _ _ ⟨bm, rfl, rfl⟩
        refine Seq.nil ⟨(by repeat (first | exact Part.refl _ | exact Part.nil _ | apply Part.here | apply Part.skip)), ?_⟩
        refine Any.one 6 rfl (by kernel_rfl) ?_
        refine Seq.callP rfl (fun w hw => hx ▸ msgUnpackInput (bs := [g0, g1, g2, g3, g4, g5, g6]) (RM.up RM.own hw)) ?_
        refine Seq.nil ⟨(by repeat (first | exact Part.refl _ | exact Part.nil _ | apply Part.here | apply Part.skip)), ?_⟩
        refine Any.one 8 rfl (by kernel_rfl) ?_
        refine Seq.storeN [_, _, _, _, _, _, _, _, _, _, _] sz.api_Input (k := ?_)
        refine Seq.nil ⟨(by repeat (first | exact Part.refl _ | exact Part.nil _ | apply Part.here | apply Part.skip)), ?_⟩
        refine Any.done (by kernel_rfl) ?_
        refine JC.seq ?_
        refine JC.rs ?_
        refine Seq.p rfl (Ev.ldBA ag.api_Input) ?_
        refine Seq.callP rfl (fun w hw => hP ▸ msgPack) ?_
        refine Seq.p rfl Ev.move ?_
        refine Seq.p rfl Ev.extract ?_
        refine Seq.p rfl Ev.extract ?_
        refine Seq.alloc (cs := [_, _, _, _, _, _, _, _]) (hz := z.api_Frame) (k := ?_); intro b7
        refine Seq.storeN [_, _, _, _, _, _, _, _] sz.api_Frame (k := ?_)
        refine Seq.p rfl Ev.assign ?_
        refine Seq.nil ?_
        refine JC.rs ?_
        refine Seq.p rfl Ev.move ?_
        refine Seq.p rfl Ev.ne ?_
        refine Seq.p rfl Ev.move ?_
        refine Seq.split (d := 60) (k := ?_)
        rintro (_|_) h60
        · try simp only [decide_eq_true_eq, decide_eq_false_iff_not] at h60
          refine Seq.gy rfl rfl rfl ?_
          refine Seq.p rfl (Ev.ldBA ag.api_Frame) ?_
          refine Seq.gy rfl rfl rfl ?_
          refine Seq.p rfl (Ev.ldBA ag.api_Frame) ?_
          refine Seq.gy rfl rfl rfl ?_
          refine Seq.p rfl (Ev.neAg so.api_Frame ag.api_Frame gd.api_Frame) ?_
          refine Seq.p rfl Ev.pickF ?_
          refine Seq.nil ?_
          first | refine JC.c (ht := fun c64 => ?_) (hf := fun c64 => ?_) | refine JC.cb (ht := fun c64 => ?_) (hf := fun c64 => ?_)
          · -- then_t64
            refine JC.rs ?_
            refine Seq.p rfl (Ev.buildN [_, _, _, _, _, _, _, _, _, _, _] pl.api_Input z.api_Input) ?_
            refine Seq.storeN [_, _, _, _, _, _, _, _, _, _, _] sz.api_Input (k := ?_)
            refine Seq.p rfl Ev.assign ?_
            refine Seq.nil ?_
            refine JC.ret ?_
            -- return 7
            show retQ _ _ _ _ _ _ _ _
            refine retB2 ag.api_Input (hp := Part.nil _) (hpost := ?_)
            have c65 : (!eqL (Frame.enc ⟨kk, [a0, a1, a2, a3, a4, a5, a6]⟩) (Frame.enc ⟨k, [g0, g1, g2, g3, g4, g5, g6]⟩)) = true := c64
            rw [Frame.eqL_enc] at c65
            have hne : ¬ ((⟨kk, [a0, a1, a2, a3, a4, a5, a6]⟩ : Frame) = ⟨k, [g0, g1, g2, g3, g4, g5, g6]⟩) := by intro he; rw [decide_eq_true he] at c65; cases c65
            rw [unpackF, if_neg hng, hx, hP, if_neg (fun h => hne h.2)]
            rfl
          · -- else_t64
            refine JC.skip ?_
            refine JC.rs ?_
            refine Seq.p rfl (Ev.ldBA ag.api_Input) ?_
            refine Seq.storeN [_, _, _, _, _, _, _, _, _, _, _] sz.api_Input (k := ?_)
            refine Seq.p rfl Ev.assign ?_
            refine Seq.nil ?_
            refine JC.ret ?_
            -- return 8
            show retQ _ _ _ _ _ _ _ _
            refine retB2 ag.api_Input (hp := Part.nil _) (hpost := ?_)
            have c65 : (!eqL (Frame.enc ⟨kk, [a0, a1, a2, a3, a4, a5, a6]⟩) (Frame.enc ⟨k, [g0, g1, g2, g3, g4, g5, g6]⟩)) = false := c64
            rw [Frame.eqL_enc] at c65
            have heq : ((⟨kk, [a0, a1, a2, a3, a4, a5, a6]⟩ : Frame) = ⟨k, [g0, g1, g2, g3, g4, g5, g6]⟩) := of_ndec c65
            rw [unpackF, if_neg hng, hx, hP, if_pos ⟨Classical.not_not.1 h60, heq⟩]
            rfl
        · try simp only [decide_eq_true_eq, decide_eq_false_iff_not] at h60
          refine Seq.gn rfl rfl rfl rfl ?_
          refine Seq.gn rfl rfl rfl rfl ?_
          refine Seq.gn rfl rfl rfl rfl ?_
          refine Seq.p rfl Ev.pickT ?_
          refine Seq.nil ?_
          refine JC.cT (h := ?_)
          refine JC.rs ?_
          refine Seq.p rfl (Ev.buildN [_, _, _, _, _, _, _, _, _, _, _] pl.api_Input z.api_Input) ?_
          refine Seq.storeN [_, _, _, _, _, _, _, _, _, _, _] sz.api_Input (k := ?_)
          refine Seq.p rfl Ev.assign ?_
          refine Seq.nil ?_
          refine JC.ret ?_
          -- return 9
          show retQ _ _ _ _ _ _ _ _
          refine retB2 ag.api_Input (hp := Part.nil _) (hpost := ?_)
          rw [unpackF, if_neg hng, hx, hP, if_neg (fun h => h60 h.1)]
          rfl
  · try simp only [decide_eq_true_eq, decide_eq_false_iff_not] at h12
    refine Seq.gn rfl rfl rfl rfl ?_
    refine Seq.gn rfl rfl rfl rfl ?_
    refine Seq.gn rfl rfl rfl rfl ?_
    refine Seq.p rfl Ev.pickT ?_
    refine Seq.nil ?_
    refine JC.cT (h := ?_)
    refine JC.rs ?_
    refine Seq.p rfl (Ev.buildN [_, _, _, _, _, _, _, _, _, _, _] pl.api_Input z.api_Input) ?_
    refine Seq.storeN [_, _, _, _, _, _, _, _, _, _, _] sz.api_Input (k := ?_)
    refine Seq.p rfl Ev.assign ?_
    refine Seq.nil ?_
    refine JC.ret ?_
    -- return 10
    show retQ _ _ _ _ _ _ _ _
    refine retB2 ag.api_Input (hp := Part.nil _) (hpost := ?_)
    rw [unpackF, if_pos (Or.inl h12)]
    rfl
end Go.Rx
