/- Parts of the proof. -/
import Derived.Test.YthpejgmkiomfhaaGreatDoorPart1
import Derived.Test.YthpejgmkiomfhaaGreatDoorRows
import Derived.Below
import Derived.ChangeOld
import Derived.ShutString
import Derived.Shelf.Strconv.Atoi
import Derived.Shelf.Strconv.Itoa0
import Derived.Shelf.Strconv.Itoa1
import Derived.Shelf.LaysM
import Derived.Shelf.Strconv.Itoa2
import Derived.Shelf.Strconv.Itoa3
import Derived.Shelf.Strconv.AtoiErrFast
import Derived.Shelf.Strconv.ParseIntEmpty
import Derived.Shelf.Strconv.AtoiFail
import Derived.Shelf.Strconv.Clone
import Derived.Shelf.Strconv.SyntaxError
import Derived.Shelf.LaysC
import Derived.Shelf.Strconv.ToError
import Derived.Shelf.Strconv.Lower
import Derived.Shelf.Strconv.ParseUint10
import Derived.Shelf.Strconv.ParseUint10Empty
import Derived.Shelf.Strconv.ParseUint10Any
import Derived.Shelf.Strconv.ParseInt10
import Derived.Shelf.Strconv.AtoiLong
import Derived.Shelf.Strconv.AtoiInnerAll
import Derived.Shelf.Strconv.RangeError
import Derived.Shelf.Strconv.ToErrorRange
import Derived.Shelf.Strconv.AtoiAll
import Derived.Shelf.Strconv.ErrVarAll
import Derived.Shelf.Strconv.ParseUintEmpty
import Derived.Shelf.Strconv.ParseUint10b64
import Derived.Shelf.Strconv.ParseUint10b32
import Derived.Shelf.Strconv.ParseUint10b16
import Derived.Shelf.Strconv.ParseUint10b8
import Derived.Ground.MpProg
import Derived.Shelf.Pu.ParseUintPublic10
import Derived.Shelf.Pu.ErrVarParseUint
import Derived.Shelf.Strings.Search1
import Derived.Shelf.Strings.Search2
import Derived.Shelf.Strings.Cut
import Derived.Shelf.Strings.Shaped
import Derived.Shelf.GgClosure.StringsIndexFunc
import Derived.Ground.GgwProg
import Derived.Shelf.GgClosure.StringsIndexFuncTop
import Derived.Shelf.Strings.FuncGrows
import Derived.Shelf.Slices.Turned
import Derived.Shelf.Bytes.SlIndexAt
import Derived.Shelf.Bytes.SlSearch0
import Derived.Shelf.Bytes.IndexByte
import Derived.Test.YthpejgmkiomfhaaGreatDoorProg
import Derived.Laws.RangeString
import Derived.Laws.RangeAny
import Derived.Lib.AtoiAllCases
import Derived.WideLaws
set_option linter.unusedVariables false
set_option linter.unusedSimpArgs false
namespace Go.Rx
open Go Go.RowKit
set_option linter.unusedVariables false
set_option linter.unusedSimpArgs false
def andU (a b : Int) : Int := IntKind.u64.wrap ((BitVec.ofInt IntKind.u64.bits a &&& BitVec.ofInt IntKind.u64.bits b).toNat : Nat)
def down (a n : Int) : Int := a / 2 ^ (min n.toNat IntKind.u64.bits)
def someF (fs : List Fld) (m : List (Int × Int)) : List (Int × Int) := fs.foldl (fun r f => iput r f.tag (iget m f.tag)) []
theorem someF_snoc (fs : List Fld) (m : List (Int × Int)) (i : Nat) (h : i < fs.length) : someF (fs.take (i + 1)) m = iput (someF (fs.take i) m) fs[i]!.tag (iget m fs[i]!.tag) := by
  have : fs.take (i + 1) = fs.take i ++ [fs[i]!] := by
    rw [List.take_succ_eq_append_getElem h, getElem!_pos fs i h]
  rw [this]
  unfold someF
  rw [List.foldl_append]
  rfl
def MapPost (m : List (Int × Int)) (u : Value) (N : List Chunk) : Prop := ∃ b, u = .map (some b) ∧ N = [.mi b .i64 .u64 m]
set_option maxHeartbeats 1000000 in
theorem msgSome {w : World} {v vm : Value} {fs : List Fld} {m : List (Int × Int)} (hs : RSl Fld.enc 3 w [] v fs) (hm : RMp .i64 .u64 w [] vm m) : Spec Go.Proofs.Tryz.prog 44 #[v, vm] w [] (MapPost (someF fs m)) := by
  have hsm := hs.small
  refine Spec.enter (fn := Go.Proofs.Tryz.f44) (n := 24) [v, vm] Go.Proofs.Tryz.func44 (by kernel_rfl) rfl Go.Proofs.Tryz.ntmps44 Go.Proofs.Tryz.results44 rfl (Own.nil _) ?_
  refine JC.rs ?_
  refine Seq.p rfl Ev.assign ?_
  refine Seq.nil ?_
  refine JC.rs ?_
  refine Seq.mkMapI .i64 .u64 (k := ?_); intro b8
  refine Seq.p rfl Ev.assign ?_
  refine Seq.nil ?_
  refine JC.seq ?_
  refine JC.rs ?_
  refine Seq.p rfl Ev.move ?_
  refine Seq.p rfl (Ev.lenSl sl.sl_message_field (hr := hs.r)) ?_
  refine Seq.p rfl Ev.move ?_
  refine Seq.nil ?_
  refine JC.blk ?_
  refine JC.loop (α := Nat) (I := fun i e1 H1 => Has [7, 11, 12, 13, 14, 15, 16, 17, 18, 19, 20, 21, 22] [(11, .int .i64 (i : Int))] _ e1 ∧ H1 = [.mi b8 .i64 .u64 (someF (fs.take i) m)] ∧ i ≤ fs.length) (μ := fun i => fs.length - i) 0 ⟨Has.mk Off.refl (allLook_cons (by repeat (first | exact Look.here | apply Look.there (hne := rfl) | exact Look.const | apply Look.mix rfl | exact Look.arg0 | apply Look.args | exact Look.func)) allLook_nil), rfl, by omega⟩ ?_
  rintro i _ _ ⟨⟨ui, rfl⟩, rfl, hi⟩; dsimp only [setL]
  refine JC.rs ?_
  refine Seq.p rfl Ev.lt ?_
  refine Seq.nil ?_
  refine JC.seq ?_
  first | refine JC.c (ht := fun c12 => ?_) (hf := fun c12 => ?_) | refine JC.cb (ht := fun c12 => ?_) (hf := fun c12 => ?_)
  · -- then_t12
    have hi2 : i < fs.length := by omega
    refine JC.skip ?_
    refine JC.seq ?_
    refine JC.blk ?_
    refine JC.rs ?_
    refine Seq.p rfl (Ev.iaN sl.sl_message_field (hr := hs.r)) ?_
    refine Seq.p rfl (Ev.ldEA ag.message_field (hr := hs.r)) ?_
    refine Seq.alloc (cs := [_, _, _]) (hz := z.message_field) (k := ?_); intro b7
    refine Seq.storeN [_, _, _] sz.message_field (k := ?_)
    refine Seq.nil ?_
    refine JC.reg ?_
    refine Seq.p rfl Ev.move ?_
    refine Seq.p rfl (Ev.faB fd.message_field_0) ?_
    refine Seq.p rfl (Ev.ldB sc.int) ?_
    refine Seq.p rfl Ev.move ?_
    refine Seq.p rfl (Ev.faB fd.message_field_0) ?_
    refine Seq.p rfl (Ev.ldB sc.int) ?_
    refine Seq.p rfl (Ev.mapI mp.m_int_uint64 z.uint64 hm.r) ?_
    refine Seq.mapPutI mp.m_int_uint64 (kk' := ?_)
    refine Seq.nil ?_
    refine JC.reg ?_
    refine Seq.p rfl (by first | exact Ev.inc | exact Ev.add) ?_
    refine Seq.p rfl Ev.move ?_
    refine Seq.nil ?_
    exact ⟨i + 1, _, Part.skip (Part.refl _), ⟨Has.mk (by repeat (first | refine Off.upd ?_ rfl | exact Off.mix | refine Off.mix2 ?_ rfl | exact Off.refl)) (allLook_cons (by repeat (first | exact Look.here | apply Look.there (hne := rfl) | exact Look.const | apply Look.mix rfl | exact Look.arg0 | apply Look.args | exact Look.func)) allLook_nil), by rw [someF_snoc fs m i hi2]; rfl, by omega⟩, by omega⟩
  · -- else_t12
    obtain rfl : i = fs.length := by omega
    refine JC.exit ?_ -- 0
    refine JC.rs ?_
    refine Seq.p rfl Ev.move ?_
    refine Seq.p rfl Ev.assign ?_
    refine Seq.nil ?_
    refine JC.ret ?_
    show retQ _ _ _ _ _ _ _ _
    refine ret1 (hp := Part.refl _) (hpost := ?_)
    exact ⟨b8, rfl, by rw [List.take_length]⟩
def blankFs (k : Int) : List Fld := match fieldsF (inputF k []) with | some (_, _, fs) => fs | none => []
theorem blank_some {k : Int} (hk : 1 ≤ k ∧ k ≤ 4) : ∃ a s, fieldsF (inputF k []) = some (a, s, blankFs k) := by
  have : k = 1 ∨ k = 2 ∨ k = 3 ∨ k = 4 := by omega
  rcases this with rfl | rfl | rfl | rfl <;> exact ⟨_, _, rfl⟩
set_option maxHeartbeats 1000000 in
theorem msgOnly {w : World} {k : Int} {vm : Value} {m : List (Int × Int)} (hk : 1 ≤ k ∧ k ≤ 4) (hm : RMp .i64 .u64 w [] vm m) : Spec Go.Proofs.Tryz.prog 42 #[.int .u8 k, vm] w [] (MapPost (someF (blankFs k) m)) := by
  obtain ⟨a, s, hF⟩ := blank_some hk
  have hsm := fieldsF_small hF
  generalize blankFs k = fs at hF hsm
  refine Spec.enter (fn := Go.Proofs.Tryz.f42) (n := 22) [.int .u8 k, vm] Go.Proofs.Tryz.func42 (by kernel_rfl) rfl Go.Proofs.Tryz.ntmps42 Go.Proofs.Tryz.results42 rfl (Own.nil _) ?_
  refine JC.rs ?_
  refine Seq.p rfl Ev.assign ?_
  refine Seq.nil ?_
  refine JC.rs ?_
  refine Seq.p rfl Ev.move ?_
  refine Seq.callP rfl (fun w hw => msgInputOf (RMp.nil _ _ _ _)) ?_
  refine Seq.alloc (cs := [_, _, _, _, _, _, _, _, _, _, _]) (hz := z.api_Input) (k := ?_); intro b5
  refine Seq.storeN [_, _, _, _, _, _, _, _, _, _, _] sz.api_Input (k := ?_)
  refine Seq.nil ?_
  refine JC.rs ?_
  refine Seq.p rfl (Ev.ldBA ag.api_Input) ?_
  refine Seq.call rfl (fun w hw => hF ▸ msgFieldsOf) (F := _) (by exact List.Perm.refl _) ?_
  rintro _ _ ⟨bf, rfl, rfl⟩
  refine Seq.p rfl Ev.move ?_
  refine Seq.p rfl Ev.extract ?_
  refine Seq.p rfl Ev.extract ?_
  refine Seq.p rfl Ev.extract ?_
  refine Seq.p rfl Ev.extract ?_
  refine Seq.p rfl Ev.assign ?_
  refine Seq.p rfl Ev.assign ?_
  refine Seq.p rfl Ev.assign ?_
  refine Seq.p rfl Ev.assign ?_
  refine Seq.nil ?_
  refine JC.rs ?_
  refine Seq.p rfl Ev.move ?_
  refine Seq.p rfl Ev.move ?_
  refine Seq.call rfl (fun w hw => msgSome (RAt.up (RAt.box (enc := Fld.enc) (hs := by omega)) hw) (hm.up hw)) (F := _) (by exact List.Perm.refl _) ?_
  rintro _ _ ⟨bm, rfl, rfl⟩
  refine Seq.p rfl Ev.assign ?_
  refine Seq.nil ?_
  refine JC.ret ?_
  show retQ _ _ _ _ _ _ _ _
  refine ret1 (hp := Part.here (Part.nil _)) (hpost := ?_)
  exact ⟨bm, rfl, rfl⟩
def wordsM (ws : List Int) : List (Int × Int) :=
  [(11, ws[0]!), (9001, ws[0]!), (41, ws[1]!), (1, andU ws[2]! 4294967295), (54, andU (down ws[2]! 32) 255), (40, andU (down ws[2]! 40) 255), (44, andU ws[3]! 4294967295), (38, ws[4]!), (210, ws[5]!)]
def frV (k g0 g1 g2 g3 g4 g5 g6 : Int) : List Value := [.int .u8 k, .int .u64 g0, .int .u64 g1, .int .u64 g2, .int .u64 g3, .int .u64 g4, .int .u64 g5, .int .u64 g6]
def input0 : Input := ⟨0, 0, 0, 0, 0, 0, 0, 0, 0, 0, 0⟩
def unpackI (f : Frame) : Input := inputF f.kind (someF (blankFs f.kind) (wordsM f.words))
def unpackF (f : Frame) : Input × Int := if f.kind < 1 ∨ 4 < f.kind then (input0, 41) else if (packF (unpackI f)).2 = 0 ∧ (packF (unpackI f)).1 = f then (unpackI f, 0) else (input0, 40)
def unpackV (p : Input × Int) : Value := .tuple #[.agg p.1.enc.toArray, .int .i64 p.2]
theorem Frame.eqL_enc (k k' : Int) (a0 a1 a2 a3 a4 a5 a6 g0 g1 g2 g3 g4 g5 g6 : Int) : eqL (Frame.enc ⟨k, [a0, a1, a2, a3, a4, a5, a6]⟩) (Frame.enc ⟨k', [g0, g1, g2, g3, g4, g5, g6]⟩) = decide ((⟨k, [a0, a1, a2, a3, a4, a5, a6]⟩ : Frame) = ⟨k', [g0, g1, g2, g3, g4, g5, g6]⟩) := by
  simp [Frame.enc, eqL, eqV, Bool.decide_and]
theorem msgUnpackInput {w : World} {k : Int} {bs : List Int} {vm : Value} (hm : RMp .i64 .u64 w [] vm (someF (blankFs k) (wordsM bs))) : Spec Go.Proofs.Tryz.prog 21 #[.int .u8 k, vm] w [] (fun u _ => u = .agg (unpackI ⟨k, bs⟩).enc.toArray) := msgInputOf hm
set_option maxHeartbeats 4000000 in
set_option maxRecDepth 100000 in
theorem msgUnpack {w : World} {k g0 g1 g2 g3 g4 g5 g6 : Int} : Spec Go.Proofs.Tryz.prog 17 #[.agg (frV k g0 g1 g2 g3 g4 g5 g6).toArray] w [] (fun u _ => u = unpackV (unpackF ⟨k, [g0, g1, g2, g3, g4, g5, g6]⟩)) := by
  generalize hx : unpackI ⟨k, [g0, g1, g2, g3, g4, g5, g6]⟩ = x
  obtain ⟨a0, a1, a2, a3, a4, a5, a6, h7⟩ := list7 (packF_len x)
  have hP : packF x = (⟨(packF x).1.kind, [a0, a1, a2, a3, a4, a5, a6]⟩, (packF x).2) := by rw [← h7]
  generalize hkk : (packF x).1.kind = kk at hP
  generalize hee : (packF x).2 = ee at hP
  refine Spec.enter (fn := Go.Proofs.Tryz.f17) (n := 67) [.agg (frV k g0 g1 g2 g3 g4 g5 g6).toArray] Go.Proofs.Tryz.func17 (by kernel_rfl) rfl Go.Proofs.Tryz.ntmps17 Go.Proofs.Tryz.results17 rfl (Own.nil _) ?_
  refine JC.rs ?_
  refine Seq.box (cs := [_, _, _, _, _, _, _, _]) (k := ?_); intro b1
  refine Seq.alloc (cs := [_, _, _, _, _, _, _, _, _, _, _]) (hz := z.api_Input) (k := ?_); intro b2
  refine Seq.p rfl Ev.assign ?_
  refine Seq.nil ?_
  refine JC.seq ?_
  refine JC.rs ?_
  refine Seq.p rfl (Ev.faB fd.api_Frame_0) ?_
  refine Seq.p rfl (Ev.ldB sc.uint8) ?_
  refine Seq.p rfl Ev.lt ?_
  refine Seq.p rfl Ev.move ?_
  refine Seq.split (d := 12) (k := ?_)
  rintro (_|_) h12
  · try simp only [decide_eq_true_eq, decide_eq_false_iff_not] at h12
    refine Seq.gy rfl rfl rfl ?_
    refine Seq.p rfl (Ev.faB fd.api_Frame_0) ?_
    refine Seq.gy rfl rfl rfl ?_
    refine Seq.p rfl (Ev.ldB sc.uint8) ?_
    refine Seq.gy rfl rfl rfl ?_
    refine Seq.p rfl Ev.gt ?_
    refine Seq.p rfl Ev.pickF ?_
    refine Seq.nil ?_
    first | refine JC.c (ht := fun c16 => ?_) (hf := fun c16 => ?_) | refine JC.cb (ht := fun c16 => ?_) (hf := fun c16 => ?_)
    · -- then_t16
      refine JC.rs ?_
      refine Seq.p rfl (Ev.buildN [_, _, _, _, _, _, _, _, _, _, _] pl.api_Input z.api_Input) ?_
      refine Seq.storeN [_, _, _, _, _, _, _, _, _, _, _] sz.api_Input (k := ?_)
      refine Seq.p rfl Ev.assign ?_
      refine Seq.nil ?_
      refine JC.ret ?_
      show retQ _ _ _ _ _ _ _ _
      refine retB2 ag.api_Input (hp := Part.nil _) (hpost := ?_)
      rw [unpackF, if_pos (Or.inr c16)]
      rfl
    · -- else_t16
      have hng : ¬ (k < 1 ∨ 4 < k) := by omega
      refine JC.skip ?_
      refine JC.rs ?_
      refine Seq.p rfl (Ev.faB fd.api_Frame_1) ?_
      refine Seq.p rfl (Ev.ldBPN [_, _, _, _, _, _, _] ag.a7_uint64) ?_
      refine Seq.alloc (cs := [_, _, _, _, _, _, _]) (hz := z.a7_uint64) (k := ?_); intro b4
      refine Seq.storeN [_, _, _, _, _, _, _] sz.a7_uint64 (k := ?_)
      refine Seq.nil ?_
      refine JC.rs ?_
      refine Seq.mkMapI .i64 .u64 (k := ?_); intro b20
      refine Seq.p rfl (Ev.iaArrB ar.a7_uint64) ?_
      refine Seq.p rfl (Ev.ldB sc.uint64) ?_
      refine Seq.mapInsI mp.m_int_uint64 (kk' := ?_)
      refine Seq.p rfl (Ev.iaArrB ar.a7_uint64) ?_
      refine Seq.p rfl (Ev.ldB sc.uint64) ?_
      refine Seq.mapInsI mp.m_int_uint64 (kk' := ?_)
      refine Seq.p rfl (Ev.iaArrB ar.a7_uint64) ?_
      refine Seq.p rfl (Ev.ldB sc.uint64) ?_
      refine Seq.mapInsI mp.m_int_uint64 (kk' := ?_)
      refine Seq.p rfl (Ev.iaArrB ar.a7_uint64) ?_
      refine Seq.p rfl (Ev.ldB sc.uint64) ?_
      refine Seq.p rfl (Ev.bits (k := .u64) (· &&& ·) (.inl ⟨rfl, rfl⟩)) ?_
      refine Seq.mapInsI mp.m_int_uint64 (kk' := ?_)
      refine Seq.p rfl (Ev.iaArrB ar.a7_uint64) ?_
      refine Seq.p rfl (Ev.ldB sc.uint64) ?_
      refine Seq.p rfl Ev.shrW ?_
      refine Seq.p rfl (Ev.bits (k := .u64) (· &&& ·) (.inl ⟨rfl, rfl⟩)) ?_
      refine Seq.mapInsI mp.m_int_uint64 (kk' := ?_)
      refine Seq.p rfl (Ev.iaArrB ar.a7_uint64) ?_
      refine Seq.p rfl (Ev.ldB sc.uint64) ?_
      refine Seq.p rfl Ev.shrW ?_
      refine Seq.p rfl (Ev.bits (k := .u64) (· &&& ·) (.inl ⟨rfl, rfl⟩)) ?_
      refine Seq.mapInsI mp.m_int_uint64 (kk' := ?_)
      refine Seq.p rfl (Ev.iaArrB ar.a7_uint64) ?_
      refine Seq.p rfl (Ev.ldB sc.uint64) ?_
      refine Seq.p rfl (Ev.bits (k := .u64) (· &&& ·) (.inl ⟨rfl, rfl⟩)) ?_
      refine Seq.mapInsI mp.m_int_uint64 (kk' := ?_)
      refine Seq.p rfl (Ev.iaArrB ar.a7_uint64) ?_
      refine Seq.p rfl (Ev.ldB sc.uint64) ?_
      refine Seq.mapInsI mp.m_int_uint64 (kk' := ?_)
      refine Seq.p rfl (Ev.iaArrB ar.a7_uint64) ?_
      refine Seq.p rfl (Ev.ldB sc.uint64) ?_
      refine Seq.mapInsI mp.m_int_uint64 (kk' := ?_)
      refine Seq.p rfl Ev.move ?_
      refine Seq.p rfl Ev.assign ?_
      refine Seq.nil ?_
      refine JC.as mixed ?_
      refine Any.p 0 rfl (by kernel_rfl) (by kernel_rfl) (by kernel_rfl) rfl (Ev.faB fd.api_Frame_0) ?_
      refine Any.p 1 rfl (by kernel_rfl) (by kernel_rfl) (by kernel_rfl) rfl (Ev.ldB sc.uint8) ?_
      refine Any.p 2 rfl (by kernel_rfl) (by kernel_rfl) (by kernel_rfl) rfl (Ev.faB fd.api_Frame_0) ?_
      refine Any.p 3 rfl (by kernel_rfl) (by kernel_rfl) (by kernel_rfl) rfl (Ev.ldB sc.uint8) ?_
      refine Any.p 4 rfl (by kernel_rfl) (by kernel_rfl) (by kernel_rfl) rfl Ev.move ?_
      refine Any.two 5 7 rfl rfl (by kernel_rfl) ?_ ?_
      · -- first 5
        refine Seq.call rfl (fun w hw => msgOnly (m := wordsM [g0, g1, g2, g3, g4, g5, g6]) (by omega) (RM.up RM.own hw)) (F := _) (by exact List.Perm.refl _) ?_
        rintro _ _ ⟨bm, rfl, rfl⟩
        refine Seq.nil ⟨(by repeat (first | exact Part.refl _ | exact Part.nil _ | apply Part.here | apply Part.skip)), ?_⟩
        refine Any.two 6 7 rfl rfl (by kernel_rfl) ?_ ?_
        · -- first 6
          refine Seq.callP rfl (fun w hw => hx ▸ msgUnpackInput (bs := [g0, g1, g2, g3, g4, g5, g6]) (RM.up RM.own hw)) ?_
          refine Seq.nil ⟨(by repeat (first | exact Part.refl _ | exact Part.nil _ | apply Part.here | apply Part.skip)), ?_⟩
          refine Any.one 7 rfl (by kernel_rfl) ?_
          refine Seq.alloc (cs := [_, _, _, _, _, _, _, _, _, _, _]) (hz := z.api_Input) (k := ?_); intro b6
          refine Seq.nil ⟨(by repeat (first | exact Part.refl _ | exact Part.nil _ | apply Part.here | apply Part.skip)), ?_⟩
          refine Any.one 8 rfl (by kernel_rfl) ?_
          refine Seq.storeN [_, _, _, _, _, _, _, _, _, _, _] sz.api_Input (k := ?_)
          refine Seq.nil ⟨(by repeat (first | exact Part.refl _ | exact Part.nil _ | apply Part.here | apply Part.skip)), ?_⟩
          refine Any.done (by kernel_rfl) ?_
          refine JC.seq ?_
          refine JC.rs ?_
          refine Seq.p rfl (Ev.ldBA ag.api_Input) ?_
          refine Seq.callP rfl (fun w hw => hP ▸ msgPack) ?_
          refine Seq.p rfl Ev.move ?_
          refine Seq.p rfl Ev.extract ?_
          refine Seq.p rfl Ev.extract ?_
          refine Seq.alloc (cs := [_, _, _, _, _, _, _, _]) (hz := z.api_Frame) (k := ?_); intro b7
          refine Seq.storeN [_, _, _, _, _, _, _, _] sz.api_Frame (k := ?_)
          refine Seq.p rfl Ev.assign ?_
          refine Seq.nil ?_
          refine JC.rs ?_
          refine Seq.p rfl Ev.move ?_
          refine Seq.p rfl Ev.ne ?_
          refine Seq.p rfl Ev.move ?_
          refine Seq.split (d := 60) (k := ?_)
          rintro (_|_) h60
          · try simp only [decide_eq_true_eq, decide_eq_false_iff_not] at h60
            refine Seq.gy rfl rfl rfl ?_
            refine Seq.p rfl (Ev.ldBA ag.api_Frame) ?_
            refine Seq.gy rfl rfl rfl ?_
            refine Seq.p rfl (Ev.ldBA ag.api_Frame) ?_
            refine Seq.gy rfl rfl rfl ?_
            refine Seq.p rfl (Ev.neAg so.api_Frame ag.api_Frame gd.api_Frame) ?_
            refine Seq.p rfl Ev.pickF ?_
            refine Seq.nil ?_
            first | refine JC.c (ht := fun c64 => ?_) (hf := fun c64 => ?_) | refine JC.cb (ht := fun c64 => ?_) (hf := fun c64 => ?_)
            · -- then_t64
              refine JC.rs ?_
              refine Seq.p rfl (Ev.buildN [_, _, _, _, _, _, _, _, _, _, _] pl.api_Input z.api_Input) ?_
              refine Seq.storeN [_, _, _, _, _, _, _, _, _, _, _] sz.api_Input (k := ?_)
              refine Seq.p rfl Ev.assign ?_
              refine Seq.nil ?_
              refine JC.ret ?_
              show retQ _ _ _ _ _ _ _ _
              refine retB2 ag.api_Input (hp := Part.nil _) (hpost := ?_)
              have c65 : (!eqL (Frame.enc ⟨kk, [a0, a1, a2, a3, a4, a5, a6]⟩) (Frame.enc ⟨k, [g0, g1, g2, g3, g4, g5, g6]⟩)) = true := c64
              rw [Frame.eqL_enc] at c65
              have hne : ¬ ((⟨kk, [a0, a1, a2, a3, a4, a5, a6]⟩ : Frame) = ⟨k, [g0, g1, g2, g3, g4, g5, g6]⟩) := by intro he; rw [decide_eq_true he] at c65; cases c65
              rw [unpackF, if_neg hng, hx, hP, if_neg (fun h => hne h.2)]
              rfl
            · -- else_t64
              refine JC.skip ?_
              refine JC.rs ?_
              refine Seq.p rfl (Ev.ldBA ag.api_Input) ?_
              refine Seq.storeN [_, _, _, _, _, _, _, _, _, _, _] sz.api_Input (k := ?_)
              refine Seq.p rfl Ev.assign ?_
              refine Seq.nil ?_
              refine JC.ret ?_
              show retQ _ _ _ _ _ _ _ _
              refine retB2 ag.api_Input (hp := Part.nil _) (hpost := ?_)
              have c65 : (!eqL (Frame.enc ⟨kk, [a0, a1, a2, a3, a4, a5, a6]⟩) (Frame.enc ⟨k, [g0, g1, g2, g3, g4, g5, g6]⟩)) = false := c64
              rw [Frame.eqL_enc] at c65
              have heq : ((⟨kk, [a0, a1, a2, a3, a4, a5, a6]⟩ : Frame) = ⟨k, [g0, g1, g2, g3, g4, g5, g6]⟩) := of_ndec c65
              rw [unpackF, if_neg hng, hx, hP, if_pos ⟨Classical.not_not.1 h60, heq⟩]
              rfl
          · try simp only [decide_eq_true_eq, decide_eq_false_iff_not] at h60
            refine Seq.gn rfl rfl rfl rfl ?_
            refine Seq.gn rfl rfl rfl rfl ?_
            refine Seq.gn rfl rfl rfl rfl ?_
            refine Seq.p rfl Ev.pickT ?_
            refine Seq.nil ?_
            refine JC.cT (h := ?_)
            refine JC.rs ?_
            refine Seq.p rfl (Ev.buildN [_, _, _, _, _, _, _, _, _, _, _] pl.api_Input z.api_Input) ?_
            refine Seq.storeN [_, _, _, _, _, _, _, _, _, _, _] sz.api_Input (k := ?_)
            refine Seq.p rfl Ev.assign ?_
            refine Seq.nil ?_
            refine JC.ret ?_
            show retQ _ _ _ _ _ _ _ _
            refine retB2 ag.api_Input (hp := Part.nil _) (hpost := ?_)
            rw [unpackF, if_neg hng, hx, hP, if_neg (fun h => h60 h.1)]
            rfl
        · -- first 7
          refine Seq.alloc (cs := [_, _, _, _, _, _, _, _, _, _, _]) (hz := z.api_Input) (k := ?_); intro b6
          refine Seq.nil ⟨(by repeat (first | exact Part.refl _ | exact Part.nil _ | apply Part.here | apply Part.skip)), ?_⟩
          refine Any.one 6 rfl (by kernel_rfl) ?_
          refine Seq.callP rfl (fun w hw => hx ▸ msgUnpackInput (bs := [g0, g1, g2, g3, g4, g5, g6]) (RM.up RM.own hw)) ?_
          refine Seq.nil ⟨(by repeat (first | exact Part.refl _ | exact Part.nil _ | apply Part.here | apply Part.skip)), ?_⟩
          refine Any.one 8 rfl (by kernel_rfl) ?_
          refine Seq.storeN [_, _, _, _, _, _, _, _, _, _, _] sz.api_Input (k := ?_)
          refine Seq.nil ⟨(by repeat (first | exact Part.refl _ | exact Part.nil _ | apply Part.here | apply Part.skip)), ?_⟩
          refine Any.done (by kernel_rfl) ?_
          refine JC.seq ?_
          refine JC.rs ?_
          refine Seq.p rfl (Ev.ldBA ag.api_Input) ?_
          refine Seq.callP rfl (fun w hw => hP ▸ msgPack) ?_
          refine Seq.p rfl Ev.move ?_
          refine Seq.p rfl Ev.extract ?_
          refine Seq.p rfl Ev.extract ?_
          refine Seq.alloc (cs := [_, _, _, _, _, _, _, _]) (hz := z.api_Frame) (k := ?_); intro b7
          refine Seq.storeN [_, _, _, _, _, _, _, _] sz.api_Frame (k := ?_)
          refine Seq.p rfl Ev.assign ?_
          refine Seq.nil ?_
          refine JC.rs ?_
          refine Seq.p rfl Ev.move ?_
          refine Seq.p rfl Ev.ne ?_
          refine Seq.p rfl Ev.move ?_
          refine Seq.split (d := 60) (k := ?_)
          rintro (_|_) h60
          · try simp only [decide_eq_true_eq, decide_eq_false_iff_not] at h60
            refine Seq.gy rfl rfl rfl ?_
            refine Seq.p rfl (Ev.ldBA ag.api_Frame) ?_
            refine Seq.gy rfl rfl rfl ?_
            refine Seq.p rfl (Ev.ldBA ag.api_Frame) ?_
            refine Seq.gy rfl rfl rfl ?_
            refine Seq.p rfl (Ev.neAg so.api_Frame ag.api_Frame gd.api_Frame) ?_
            refine Seq.p rfl Ev.pickF ?_
            refine Seq.nil ?_
            first | refine JC.c (ht := fun c64 => ?_) (hf := fun c64 => ?_) | refine JC.cb (ht := fun c64 => ?_) (hf := fun c64 => ?_)
            · -- then_t64
              refine JC.rs ?_
              refine Seq.p rfl (Ev.buildN [_, _, _, _, _, _, _, _, _, _, _] pl.api_Input z.api_Input) ?_
              refine Seq.storeN [_, _, _, _, _, _, _, _, _, _, _] sz.api_Input (k := ?_)
              refine Seq.p rfl Ev.assign ?_
              refine Seq.nil ?_
              refine JC.ret ?_
              show retQ _ _ _ _ _ _ _ _
              refine retB2 ag.api_Input (hp := Part.nil _) (hpost := ?_)
              have c65 : (!eqL (Frame.enc ⟨kk, [a0, a1, a2, a3, a4, a5, a6]⟩) (Frame.enc ⟨k, [g0, g1, g2, g3, g4, g5, g6]⟩)) = true := c64
              rw [Frame.eqL_enc] at c65
              have hne : ¬ ((⟨kk, [a0, a1, a2, a3, a4, a5, a6]⟩ : Frame) = ⟨k, [g0, g1, g2, g3, g4, g5, g6]⟩) := by intro he; rw [decide_eq_true he] at c65; cases c65
              rw [unpackF, if_neg hng, hx, hP, if_neg (fun h => hne h.2)]
              rfl
            · -- else_t64
              refine JC.skip ?_
              refine JC.rs ?_
              refine Seq.p rfl (Ev.ldBA ag.api_Input) ?_
              refine Seq.storeN [_, _, _, _, _, _, _, _, _, _, _] sz.api_Input (k := ?_)
              refine Seq.p rfl Ev.assign ?_
              refine Seq.nil ?_
              refine JC.ret ?_
              show retQ _ _ _ _ _ _ _ _
              refine retB2 ag.api_Input (hp := Part.nil _) (hpost := ?_)
              have c65 : (!eqL (Frame.enc ⟨kk, [a0, a1, a2, a3, a4, a5, a6]⟩) (Frame.enc ⟨k, [g0, g1, g2, g3, g4, g5, g6]⟩)) = false := c64
              rw [Frame.eqL_enc] at c65
              have heq : ((⟨kk, [a0, a1, a2, a3, a4, a5, a6]⟩ : Frame) = ⟨k, [g0, g1, g2, g3, g4, g5, g6]⟩) := of_ndec c65
              rw [unpackF, if_neg hng, hx, hP, if_pos ⟨Classical.not_not.1 h60, heq⟩]
              rfl
          · try simp only [decide_eq_true_eq, decide_eq_false_iff_not] at h60
            refine Seq.gn rfl rfl rfl rfl ?_
            refine Seq.gn rfl rfl rfl rfl ?_
            refine Seq.gn rfl rfl rfl rfl ?_
            refine Seq.p rfl Ev.pickT ?_
            refine Seq.nil ?_
            refine JC.cT (h := ?_)
            refine JC.rs ?_
            refine Seq.p rfl (Ev.buildN [_, _, _, _, _, _, _, _, _, _, _] pl.api_Input z.api_Input) ?_
            refine Seq.storeN [_, _, _, _, _, _, _, _, _, _, _] sz.api_Input (k := ?_)
            refine Seq.p rfl Ev.assign ?_
            refine Seq.nil ?_
            refine JC.ret ?_
            show retQ _ _ _ _ _ _ _ _
            refine retB2 ag.api_Input (hp := Part.nil _) (hpost := ?_)
            rw [unpackF, if_neg hng, hx, hP, if_neg (fun h => h60 h.1)]
            rfl
      · -- first 7
        refine Seq.alloc (cs := [_, _, _, _, _, _, _, _, _, _, _]) (hz := z.api_Input) (k := ?_); intro b6
        refine Seq.nil ⟨(by repeat (first | exact Part.refl _ | exact Part.nil _ | apply Part.here | apply Part.skip)), ?_⟩
        refine Any.one 5 rfl (by kernel_rfl) ?_
        refine Seq.call rfl (fun w hw => msgOnly (m := wordsM [g0, g1, g2, g3, g4, g5, g6]) (by omega) (RM.up RM.own hw)) (F := _) (by exact List.Perm.refl _) ?_
        rintro _ _ ⟨bm, rfl, rfl⟩
        refine Seq.nil ⟨(by repeat (first | exact Part.refl _ | exact Part.nil _ | apply Part.here | apply Part.skip)), ?_⟩
        refine Any.one 6 rfl (by kernel_rfl) ?_
        refine Seq.callP rfl (fun w hw => hx ▸ msgUnpackInput (bs := [g0, g1, g2, g3, g4, g5, g6]) (RM.up RM.own hw)) ?_
        refine Seq.nil ⟨(by repeat (first | exact Part.refl _ | exact Part.nil _ | apply Part.here | apply Part.skip)), ?_⟩
        refine Any.one 8 rfl (by kernel_rfl) ?_
        refine Seq.storeN [_, _, _, _, _, _, _, _, _, _, _] sz.api_Input (k := ?_)
        refine Seq.nil ⟨(by repeat (first | exact Part.refl _ | exact Part.nil _ | apply Part.here | apply Part.skip)), ?_⟩
        refine Any.done (by kernel_rfl) ?_
        refine JC.seq ?_
        refine JC.rs ?_
        refine Seq.p rfl (Ev.ldBA ag.api_Input) ?_
        refine Seq.callP rfl (fun w hw => hP ▸ msgPack) ?_
        refine Seq.p rfl Ev.move ?_
        refine Seq.p rfl Ev.extract ?_
        refine Seq.p rfl Ev.extract ?_
        refine Seq.alloc (cs := [_, _, _, _, _, _, _, _]) (hz := z.api_Frame) (k := ?_); intro b7
        refine Seq.storeN [_, _, _, _, _, _, _, _] sz.api_Frame (k := ?_)
        refine Seq.p rfl Ev.assign ?_
        refine Seq.nil ?_
        refine JC.rs ?_
        refine Seq.p rfl Ev.move ?_
        refine Seq.p rfl Ev.ne ?_
        refine Seq.p rfl Ev.move ?_
        refine Seq.split (d := 60) (k := ?_)
        rintro (_|_) h60
        · try simp only [decide_eq_true_eq, decide_eq_false_iff_not] at h60
          refine Seq.gy rfl rfl rfl ?_
          refine Seq.p rfl (Ev.ldBA ag.api_Frame) ?_
          refine Seq.gy rfl rfl rfl ?_
          refine Seq.p rfl (Ev.ldBA ag.api_Frame) ?_
          refine Seq.gy rfl rfl rfl ?_
          refine Seq.p rfl (Ev.neAg so.api_Frame ag.api_Frame gd.api_Frame) ?_
          refine Seq.p rfl Ev.pickF ?_
          refine Seq.nil ?_
          first | refine JC.c (ht := fun c64 => ?_) (hf := fun c64 => ?_) | refine JC.cb (ht := fun c64 => ?_) (hf := fun c64 => ?_)
          · -- then_t64
            refine JC.rs ?_
            refine Seq.p rfl (Ev.buildN [_, _, _, _, _, _, _, _, _, _, _] pl.api_Input z.api_Input) ?_
            refine Seq.storeN [_, _, _, _, _, _, _, _, _, _, _] sz.api_Input (k := ?_)
            refine Seq.p rfl Ev.assign ?_
            refine Seq.nil ?_
            refine JC.ret ?_
            show retQ _ _ _ _ _ _ _ _
            refine retB2 ag.api_Input (hp := Part.nil _) (hpost := ?_)
            have c65 : (!eqL (Frame.enc ⟨kk, [a0, a1, a2, a3, a4, a5, a6]⟩) (Frame.enc ⟨k, [g0, g1, g2, g3, g4, g5, g6]⟩)) = true := c64
            rw [Frame.eqL_enc] at c65
            have hne : ¬ ((⟨kk, [a0, a1, a2, a3, a4, a5, a6]⟩ : Frame) = ⟨k, [g0, g1, g2, g3, g4, g5, g6]⟩) := by intro he; rw [decide_eq_true he] at c65; cases c65
            rw [unpackF, if_neg hng, hx, hP, if_neg (fun h => hne h.2)]
            rfl
          · -- else_t64
            refine JC.skip ?_
            refine JC.rs ?_
            refine Seq.p rfl (Ev.ldBA ag.api_Input) ?_
            refine Seq.storeN [_, _, _, _, _, _, _, _, _, _, _] sz.api_Input (k := ?_)
            refine Seq.p rfl Ev.assign ?_
            refine Seq.nil ?_
            refine JC.ret ?_
            show retQ _ _ _ _ _ _ _ _
            refine retB2 ag.api_Input (hp := Part.nil _) (hpost := ?_)
            have c65 : (!eqL (Frame.enc ⟨kk, [a0, a1, a2, a3, a4, a5, a6]⟩) (Frame.enc ⟨k, [g0, g1, g2, g3, g4, g5, g6]⟩)) = false := c64
            rw [Frame.eqL_enc] at c65
            have heq : ((⟨kk, [a0, a1, a2, a3, a4, a5, a6]⟩ : Frame) = ⟨k, [g0, g1, g2, g3, g4, g5, g6]⟩) := of_ndec c65
            rw [unpackF, if_neg hng, hx, hP, if_pos ⟨Classical.not_not.1 h60, heq⟩]
            rfl
        · try simp only [decide_eq_true_eq, decide_eq_false_iff_not] at h60
          refine Seq.gn rfl rfl rfl rfl ?_
          refine Seq.gn rfl rfl rfl rfl ?_
          refine Seq.gn rfl rfl rfl rfl ?_
          refine Seq.p rfl Ev.pickT ?_
          refine Seq.nil ?_
          refine JC.cT (h := ?_)
          refine JC.rs ?_
          refine Seq.p rfl (Ev.buildN [_, _, _, _, _, _, _, _, _, _, _] pl.api_Input z.api_Input) ?_
          refine Seq.storeN [_, _, _, _, _, _, _, _, _, _, _] sz.api_Input (k := ?_)
          refine Seq.p rfl Ev.assign ?_
          refine Seq.nil ?_
          refine JC.ret ?_
          show retQ _ _ _ _ _ _ _ _
          refine retB2 ag.api_Input (hp := Part.nil _) (hpost := ?_)
          rw [unpackF, if_neg hng, hx, hP, if_neg (fun h => h60 h.1)]
          rfl
  · try simp only [decide_eq_true_eq, decide_eq_false_iff_not] at h12
    refine Seq.gn rfl rfl rfl rfl ?_
    refine Seq.gn rfl rfl rfl rfl ?_
    refine Seq.gn rfl rfl rfl rfl ?_
    refine Seq.p rfl Ev.pickT ?_
    refine Seq.nil ?_
    refine JC.cT (h := ?_)
    refine JC.rs ?_
    refine Seq.p rfl (Ev.buildN [_, _, _, _, _, _, _, _, _, _, _] pl.api_Input z.api_Input) ?_
    refine Seq.storeN [_, _, _, _, _, _, _, _, _, _, _] sz.api_Input (k := ?_)
    refine Seq.p rfl Ev.assign ?_
    refine Seq.nil ?_
    refine JC.ret ?_
    show retQ _ _ _ _ _ _ _ _
    refine retB2 ag.api_Input (hp := Part.nil _) (hpost := ?_)
    rw [unpackF, if_pos (Or.inl h12)]
    rfl
end Go.Rx
namespace Go.Rx
open Go Go.RowKit
set_option linter.unusedVariables false
set_option linter.unusedSimpArgs false
def takenF (f : Frame) (x : RF) : Int := if 0 < x.most then andU (down f.words[x.word.toNat]! x.shift) x.most else down f.words[x.word.toNat]! x.shift
def takeGo (f : Frame) (l : List RF) (a : Input) : Input := l.foldl (fun a x => withF a x.tag (takenF f x)) a
def refUnpackI (f : Frame) : Input := takeGo f (refFieldsF f.kind) (bareF f.kind)
def refUnpackF (f : Frame) : Input × Int := if f.kind < 1 ∨ 4 < f.kind then (input0, 41) else if (refPackF (refUnpackI f)).2 = 0 ∧ (refPackF (refUnpackI f)).1 = f then (refUnpackI f, 0) else (input0, 40)
end Go.Rx
/- The law bourselaw04.MessageUnpacks gives true, whatever the frame; the input reads as it did. No condition beyond the row's own. -/
namespace Go.Rx
open Go Go.RowKit Go.WideShapes
set_option linter.unusedVariables false
set_option linter.unusedSimpArgs false
theorem s64_range (n : Int) : -9223372036854775808 ≤ s64 n ∧ s64 n ≤ 9223372036854775807 := by
  have h64 : (2 ^ IntKind.i64.bits : Int) = 18446744073709551616 := rfl
  have h63 : (2 ^ (IntKind.i64.bits - 1) : Int) = 9223372036854775808 := rfl
  have hs : IntKind.i64.signed = true := rfl
  simp only [s64, IntKind.wrap, h64, h63, hs, Bool.true_and, ge_iff_le, decide_eq_true_eq]
  split <;> omega
section
variable (g0 g1 g2 g3 g4 g5 g6 : Int)
def inp1 : Input := ⟨1, 1, g0, 0, andU g2 4294967295 % 4294967296, s64 (andU (down g2 32) 255), s64 (andU (down g2 40) 255), s64 (andU g3 4294967295), g4, g5, 0⟩
def inp2 : Input := ⟨1, 2, 0, g1, 0, 0, 0, 0, 0, 0, 0⟩
def inp3 : Input := ⟨1, 3, g0, g1, 0, 0, 0, s64 (andU g3 4294967295), g4, g5, 0⟩
def inp4 : Input := ⟨2, 0, 0, 0, 0, 0, 0, 0, 0, 0, s64 (andU g0 255)⟩
end
end Go.Rx
namespace Go.Proofs.YthpejgmkiomfhaaGreatDoor
open Go Go.RowKit Go.WideShapes Go.ChangeShapes Go.ChangeAt Go.Rx
set_option linter.unusedVariables false
end Go.Proofs.YthpejgmkiomfhaaGreatDoor
namespace Go.Rx
open Go Go.RowKit
set_option linter.unusedVariables false
set_option linter.unusedSimpArgs false
def evWordsM (ws : List Int) : List (Int × Int) :=
  [(34, ws[0]!), (11, ws[1]!), (37, ws[2]!), (41, ws[2]!), (1, andU ws[3]! 4294967295), (54, andU (down ws[3]! 32) 255), (40, andU (down ws[3]! 40) 255), (378, andU (down ws[3]! 48) 255), (44, andU ws[4]! 4294967295), (103, down ws[4]! 32), (38, ws[5]!), (210, ws[6]!)]
def unpackEvX (k : Int) (fs : List Fld) (ws : List Int) : Event := eventOfF (k - 64) (someF fs (evWordsM ws))
def unpackEvF (f : Frame) : Event × Int := match evFieldsF (ev0 (f.kind - 64)) with
  | none => (ev0 0, 41)
  | some fs => if (packEvF (unpackEvX f.kind fs f.words)).2 = 0 ∧ (packEvF (unpackEvX f.kind fs f.words)).1 = f then (unpackEvX f.kind fs f.words, 0) else (ev0 0, 40)
def unpackEvV (p : Event × Int) : Value := .tuple #[.agg p.1.enc.toArray, .int .i64 p.2]
theorem msgUnpackEvOf {w : World} {k : Int} {fs : List Fld} {bs : List Int} {vm : Value} (hm : RMp .i64 .u64 w [] vm (someF fs (evWordsM bs))) : Spec Go.Proofs.Tryz.prog 31 #[.int .i64 (k - 64), vm] w [] (fun u _ => u = .agg (unpackEvX k fs bs).enc.toArray) := msgEventOf hm
theorem packEvF_len (e : Event) : (packEvF e).1.words.length = 7 := by
  unfold packEvF
  split
  · split <;> rfl
  · rfl
set_option maxHeartbeats 4000000 in
set_option maxRecDepth 100000 in
theorem msgUnpackEv0 {w : World} {k g0 g1 g2 g3 g4 g5 g6 : Int} (hk8 : 0 ≤ k ∧ k ≤ 255) (hF : evFieldsF (ev0 (k - 64)) = none) : Spec Go.Proofs.Tryz.prog 18 #[.agg (frV k g0 g1 g2 g3 g4 g5 g6).toArray] w [] (fun u _ => u = unpackEvV (unpackEvF ⟨k, [g0, g1, g2, g3, g4, g5, g6]⟩)) := by
  have hU : unpackEvF ⟨k, [g0, g1, g2, g3, g4, g5, g6]⟩ = (ev0 0, 41) := by unfold unpackEvF; rw [hF]
  refine Spec.enter (fn := Go.Proofs.Tryz.f18) (n := 82) [.agg (frV k g0 g1 g2 g3 g4 g5 g6).toArray] Go.Proofs.Tryz.func18 (by kernel_rfl) rfl Go.Proofs.Tryz.ntmps18 Go.Proofs.Tryz.results18 rfl (Own.nil _) ?_
  refine JC.rs ?_
  refine Seq.box (cs := [_, _, _, _, _, _, _, _]) (k := ?_); intro b1
  refine Seq.alloc (cs := [_, _, _, _, _, _, _, _, _, _, _, _, _]) (hz := z.api_Event) (k := ?_); intro b2
  refine Seq.p rfl Ev.assign ?_
  refine Seq.nil ?_
  refine JC.rs ?_
  refine Seq.p rfl (Ev.faB fd.api_Frame_0) ?_
  refine Seq.p rfl (Ev.ldB sc.uint8) ?_
  refine Seq.p rfl (Ev.conv64 it.uint8 it.int) ?_
  refine Seq.p rfl Ev.sub ?_
  refine Seq.p rfl (Ev.buildN [_, _, _, _, _, _, _, _, _, _, _, _, _] pl.api_Event z.api_Event) ?_
  refine Seq.call rfl (fun w hw => hF ▸ msgEventFields (e := ev0 (k - 64))) (F := _) (by exact List.Perm.refl _) ?_
  rintro _ N rfl
  refine Seq.re (fun w h => h.part ⟨N, List.perm_append_comm⟩) ?_
  refine Seq.p rfl Ev.move ?_
  refine Seq.p rfl Ev.extract ?_
  refine Seq.p rfl Ev.extract ?_
  refine Seq.p rfl Ev.assign ?_
  refine Seq.p rfl Ev.assign ?_
  refine Seq.nil ?_
  refine JC.seq ?_
  refine JC.rs ?_
  refine Seq.p rfl Ev.move ?_
  refine Seq.p rfl Ev.not ?_
  refine Seq.nil ?_
  first | refine JC.c (ht := fun c21 => ?_) (hf := fun c21 => ?_) | refine JC.cb (ht := fun c21 => ?_) (hf := fun c21 => ?_)
  · -- then_t21
    refine JC.rs ?_
    refine Seq.p rfl (Ev.buildN [_, _, _, _, _, _, _, _, _, _, _, _, _] pl.api_Event z.api_Event) ?_
    refine Seq.storeN [_, _, _, _, _, _, _, _, _, _, _, _, _] sz.api_Event (k := ?_)
    refine Seq.p rfl Ev.assign ?_
    refine Seq.nil ?_
    refine JC.ret ?_
    show retQ _ _ _ _ _ _ _ _
    refine retB2 ag.api_Event (hp := Part.nil _) (hpost := ?_)
    rw [hU]
    rfl
  · -- else_t21
    cases c21
set_option maxHeartbeats 4000000 in
set_option maxRecDepth 100000 in
theorem msgUnpackEv1 {w : World} {k g0 g1 g2 g3 g4 g5 g6 : Int} {fs : List Fld} (hk8 : 0 ≤ k ∧ k ≤ 255) (hF : evFieldsF (ev0 (k - 64)) = some fs) : Spec Go.Proofs.Tryz.prog 18 #[.agg (frV k g0 g1 g2 g3 g4 g5 g6).toArray] w [] (fun u _ => u = unpackEvV (unpackEvF ⟨k, [g0, g1, g2, g3, g4, g5, g6]⟩)) := by
  have hsm := (evFieldsF_small hF).1
  have hU : unpackEvF ⟨k, [g0, g1, g2, g3, g4, g5, g6]⟩ = if (packEvF (unpackEvX k fs [g0, g1, g2, g3, g4, g5, g6])).2 = 0 ∧ (packEvF (unpackEvX k fs [g0, g1, g2, g3, g4, g5, g6])).1 = ⟨k, [g0, g1, g2, g3, g4, g5, g6]⟩ then (unpackEvX k fs [g0, g1, g2, g3, g4, g5, g6], 0) else (ev0 0, 40) := by
    unfold unpackEvF
    rw [hF]
  generalize hx : unpackEvX k fs [g0, g1, g2, g3, g4, g5, g6] = x at hU
  obtain ⟨a0, a1, a2, a3, a4, a5, a6, h7⟩ := list7 (packEvF_len x)
  have hP : packEvF x = (⟨(packEvF x).1.kind, [a0, a1, a2, a3, a4, a5, a6]⟩, (packEvF x).2) := by rw [← h7]
  generalize hkk : (packEvF x).1.kind = kk at hP
  generalize hee : (packEvF x).2 = ee at hP
  rw [hP] at hU
  dsimp only at hU
  refine Spec.enter (fn := Go.Proofs.Tryz.f18) (n := 82) [.agg (frV k g0 g1 g2 g3 g4 g5 g6).toArray] Go.Proofs.Tryz.func18 (by kernel_rfl) rfl Go.Proofs.Tryz.ntmps18 Go.Proofs.Tryz.results18 rfl (Own.nil _) ?_
  refine JC.rs ?_
  refine Seq.box (cs := [_, _, _, _, _, _, _, _]) (k := ?_); intro b1
  refine Seq.alloc (cs := [_, _, _, _, _, _, _, _, _, _, _, _, _]) (hz := z.api_Event) (k := ?_); intro b2
  refine Seq.p rfl Ev.assign ?_
  refine Seq.nil ?_
  refine JC.rs ?_
  refine Seq.p rfl (Ev.faB fd.api_Frame_0) ?_
  refine Seq.p rfl (Ev.ldB sc.uint8) ?_
  refine Seq.p rfl (Ev.conv64 it.uint8 it.int) ?_
  refine Seq.p rfl Ev.sub ?_
  refine Seq.p rfl (Ev.buildN [_, _, _, _, _, _, _, _, _, _, _, _, _] pl.api_Event z.api_Event) ?_
  refine Seq.call rfl (fun w hw => hF ▸ msgEventFields (e := ev0 (k - 64))) (F := _) (by exact List.Perm.refl _) ?_
  rintro _ _ ⟨A, cc, rfl, rfl⟩
  refine Seq.p rfl Ev.move ?_
  refine Seq.p rfl Ev.extract ?_
  refine Seq.p rfl Ev.extract ?_
  refine Seq.p rfl Ev.assign ?_
  refine Seq.p rfl Ev.assign ?_
  refine Seq.nil ?_
  refine JC.seq ?_
  refine JC.rs ?_
  refine Seq.p rfl Ev.move ?_
  refine Seq.p rfl Ev.not ?_
  refine Seq.nil ?_
  first | refine JC.c (ht := fun c21 => ?_) (hf := fun c21 => ?_) | refine JC.cb (ht := fun c21 => ?_) (hf := fun c21 => ?_)
  · -- then_t21
    cases c21
  · -- else_t21
    refine JC.skip ?_
    refine JC.rs ?_
    refine Seq.p rfl (Ev.faB fd.api_Frame_1) ?_
    refine Seq.p rfl (Ev.ldBPN [_, _, _, _, _, _, _] ag.a7_uint64) ?_
    refine Seq.alloc (cs := [_, _, _, _, _, _, _]) (hz := z.a7_uint64) (k := ?_); intro b6
    refine Seq.storeN [_, _, _, _, _, _, _] sz.a7_uint64 (k := ?_)
    refine Seq.nil ?_
    refine JC.rs ?_
    refine Seq.mkMapI .i64 .u64 (k := ?_); intro b25
    refine Seq.p rfl (Ev.iaArrB ar.a7_uint64) ?_
    refine Seq.p rfl (Ev.ldB sc.uint64) ?_
    refine Seq.mapInsI mp.m_int_uint64 (kk' := ?_)
    refine Seq.p rfl (Ev.iaArrB ar.a7_uint64) ?_
    refine Seq.p rfl (Ev.ldB sc.uint64) ?_
    refine Seq.mapInsI mp.m_int_uint64 (kk' := ?_)
    refine Seq.p rfl (Ev.iaArrB ar.a7_uint64) ?_
    refine Seq.p rfl (Ev.ldB sc.uint64) ?_
    refine Seq.mapInsI mp.m_int_uint64 (kk' := ?_)
    refine Seq.p rfl (Ev.iaArrB ar.a7_uint64) ?_
    refine Seq.p rfl (Ev.ldB sc.uint64) ?_
    refine Seq.mapInsI mp.m_int_uint64 (kk' := ?_)
    refine Seq.p rfl (Ev.iaArrB ar.a7_uint64) ?_
    refine Seq.p rfl (Ev.ldB sc.uint64) ?_
    refine Seq.p rfl (Ev.bits (k := .u64) (· &&& ·) (.inl ⟨rfl, rfl⟩)) ?_
    refine Seq.mapInsI mp.m_int_uint64 (kk' := ?_)
    refine Seq.p rfl (Ev.iaArrB ar.a7_uint64) ?_
    refine Seq.p rfl (Ev.ldB sc.uint64) ?_
    refine Seq.p rfl Ev.shrW ?_
    refine Seq.p rfl (Ev.bits (k := .u64) (· &&& ·) (.inl ⟨rfl, rfl⟩)) ?_
    refine Seq.mapInsI mp.m_int_uint64 (kk' := ?_)
    refine Seq.p rfl (Ev.iaArrB ar.a7_uint64) ?_
    refine Seq.p rfl (Ev.ldB sc.uint64) ?_
    refine Seq.p rfl Ev.shrW ?_
    refine Seq.p rfl (Ev.bits (k := .u64) (· &&& ·) (.inl ⟨rfl, rfl⟩)) ?_
    refine Seq.mapInsI mp.m_int_uint64 (kk' := ?_)
    refine Seq.p rfl (Ev.iaArrB ar.a7_uint64) ?_
    refine Seq.p rfl (Ev.ldB sc.uint64) ?_
    refine Seq.p rfl Ev.shrW ?_
    refine Seq.p rfl (Ev.bits (k := .u64) (· &&& ·) (.inl ⟨rfl, rfl⟩)) ?_
    refine Seq.mapInsI mp.m_int_uint64 (kk' := ?_)
    refine Seq.p rfl (Ev.iaArrB ar.a7_uint64) ?_
    refine Seq.p rfl (Ev.ldB sc.uint64) ?_
    refine Seq.p rfl (Ev.bits (k := .u64) (· &&& ·) (.inl ⟨rfl, rfl⟩)) ?_
    refine Seq.mapInsI mp.m_int_uint64 (kk' := ?_)
    refine Seq.p rfl (Ev.iaArrB ar.a7_uint64) ?_
    refine Seq.p rfl (Ev.ldB sc.uint64) ?_
    refine Seq.p rfl Ev.shrW ?_
    refine Seq.mapInsI mp.m_int_uint64 (kk' := ?_)
    refine Seq.p rfl (Ev.iaArrB ar.a7_uint64) ?_
    refine Seq.p rfl (Ev.ldB sc.uint64) ?_
    refine Seq.mapInsI mp.m_int_uint64 (kk' := ?_)
    refine Seq.p rfl (Ev.iaArrB ar.a7_uint64) ?_
    refine Seq.p rfl (Ev.ldB sc.uint64) ?_
    refine Seq.mapInsI mp.m_int_uint64 (kk' := ?_)
    refine Seq.p rfl Ev.move ?_
    refine Seq.p rfl Ev.assign ?_
    refine Seq.nil ?_
    refine JC.as mixed ?_
    refine Any.p 0 rfl (by kernel_rfl) (by kernel_rfl) (by kernel_rfl) rfl (Ev.faB fd.api_Frame_0) ?_
    refine Any.p 1 rfl (by kernel_rfl) (by kernel_rfl) (by kernel_rfl) rfl (Ev.ldB sc.uint8) ?_
    refine Any.p 2 rfl (by kernel_rfl) (by kernel_rfl) (by kernel_rfl) rfl (Ev.conv64 it.uint8 it.int) ?_
    refine Any.p 3 rfl (by kernel_rfl) (by kernel_rfl) (by kernel_rfl) rfl Ev.sub ?_
    refine Any.p 4 rfl (by kernel_rfl) (by kernel_rfl) (by kernel_rfl) rfl Ev.move ?_
    refine Any.p 5 rfl (by kernel_rfl) (by kernel_rfl) (by kernel_rfl) rfl Ev.move ?_
    refine Any.two 6 8 rfl rfl (by kernel_rfl) ?_ ?_
    · -- first 6
      refine Seq.call rfl (fun w hw => msgSome (m := evWordsM [g0, g1, g2, g3, g4, g5, g6]) (RAt.up (RAt.own (enc := Fld.enc) (xs := fs) (sz := 3) (hs := by omega)) hw) (RM.up RM.own hw)) (F := _) (by exact List.Perm.refl _) ?_
      rintro _ _ ⟨bm, rfl, rfl⟩
      refine Seq.nil ⟨(by repeat (first | exact Part.refl _ | exact Part.nil _ | apply Part.here | apply Part.skip)), ?_⟩
      refine Any.two 7 8 rfl rfl (by kernel_rfl) ?_ ?_
      · -- first 7
        refine Seq.callP rfl (fun w hw => hx ▸ msgUnpackEvOf (bs := [g0, g1, g2, g3, g4, g5, g6]) (RM.up RM.own hw)) ?_
        refine Seq.nil ⟨(by repeat (first | exact Part.refl _ | exact Part.nil _ | apply Part.here | apply Part.skip)), ?_⟩
        refine Any.one 8 rfl (by kernel_rfl) ?_
        refine Seq.alloc (cs := [_, _, _, _, _, _, _, _, _, _, _, _, _]) (hz := z.api_Event) (k := ?_); intro b8
        refine Seq.nil ⟨(by repeat (first | exact Part.refl _ | exact Part.nil _ | apply Part.here | apply Part.skip)), ?_⟩
        refine Any.one 9 rfl (by kernel_rfl) ?_
        refine Seq.storeN [_, _, _, _, _, _, _, _, _, _, _, _, _] sz.api_Event (k := ?_)
        refine Seq.nil ⟨(by repeat (first | exact Part.refl _ | exact Part.nil _ | apply Part.here | apply Part.skip)), ?_⟩
        refine Any.done (by kernel_rfl) ?_
        refine JC.seq ?_
        refine JC.rs ?_
        refine Seq.p rfl (Ev.ldBA ag.api_Event) ?_
        refine Seq.callP rfl (fun w hw => hP ▸ msgPackEv) ?_
        refine Seq.p rfl Ev.move ?_
        refine Seq.p rfl Ev.extract ?_
        refine Seq.p rfl Ev.extract ?_
        refine Seq.alloc (cs := [_, _, _, _, _, _, _, _]) (hz := z.api_Frame) (k := ?_); intro b9
        refine Seq.storeN [_, _, _, _, _, _, _, _] sz.api_Frame (k := ?_)
        refine Seq.p rfl Ev.assign ?_
        refine Seq.nil ?_
        refine JC.rs ?_
        refine Seq.p rfl Ev.move ?_
        refine Seq.p rfl Ev.ne ?_
        refine Seq.p rfl Ev.move ?_
        refine Seq.split (d := 75) (k := ?_)
        rintro (_|_) h75
        · try simp only [decide_eq_true_eq, decide_eq_false_iff_not] at h75
          refine Seq.gy rfl rfl rfl ?_
          refine Seq.p rfl (Ev.ldBA ag.api_Frame) ?_
          refine Seq.gy rfl rfl rfl ?_
          refine Seq.p rfl (Ev.ldBA ag.api_Frame) ?_
          refine Seq.gy rfl rfl rfl ?_
          refine Seq.p rfl (Ev.neAg so.api_Frame ag.api_Frame gd.api_Frame) ?_
          refine Seq.p rfl Ev.pickF ?_
          refine Seq.nil ?_
          first | refine JC.c (ht := fun c79 => ?_) (hf := fun c79 => ?_) | refine JC.cb (ht := fun c79 => ?_) (hf := fun c79 => ?_)
          · -- then_t79
            refine JC.rs ?_
            refine Seq.p rfl (Ev.buildN [_, _, _, _, _, _, _, _, _, _, _, _, _] pl.api_Event z.api_Event) ?_
            refine Seq.storeN [_, _, _, _, _, _, _, _, _, _, _, _, _] sz.api_Event (k := ?_)
            refine Seq.p rfl Ev.assign ?_
            refine Seq.nil ?_
            refine JC.ret ?_
            show retQ _ _ _ _ _ _ _ _
            refine retB2 ag.api_Event (hp := Part.nil _) (hpost := ?_)
            have c80 : (!eqL (Frame.enc ⟨kk, [a0, a1, a2, a3, a4, a5, a6]⟩) (Frame.enc ⟨k, [g0, g1, g2, g3, g4, g5, g6]⟩)) = true := c79
            rw [Frame.eqL_enc] at c80
            have hne : ¬ ((⟨kk, [a0, a1, a2, a3, a4, a5, a6]⟩ : Frame) = ⟨k, [g0, g1, g2, g3, g4, g5, g6]⟩) := by intro he; rw [decide_eq_true he] at c80; cases c80
            rw [hU, if_neg (fun h => hne h.2)]
            rfl
          · -- else_t79
            refine JC.skip ?_
            refine JC.rs ?_
            refine Seq.p rfl (Ev.ldBA ag.api_Event) ?_
            refine Seq.storeN [_, _, _, _, _, _, _, _, _, _, _, _, _] sz.api_Event (k := ?_)
            refine Seq.p rfl Ev.assign ?_
            refine Seq.nil ?_
            refine JC.ret ?_
            show retQ _ _ _ _ _ _ _ _
            refine retB2 ag.api_Event (hp := Part.nil _) (hpost := ?_)
            have c80 : (!eqL (Frame.enc ⟨kk, [a0, a1, a2, a3, a4, a5, a6]⟩) (Frame.enc ⟨k, [g0, g1, g2, g3, g4, g5, g6]⟩)) = false := c79
            rw [Frame.eqL_enc] at c80
            have heq : ((⟨kk, [a0, a1, a2, a3, a4, a5, a6]⟩ : Frame) = ⟨k, [g0, g1, g2, g3, g4, g5, g6]⟩) := of_ndec c80
            rw [hU, if_pos ⟨Classical.not_not.1 h75, heq⟩]
            rfl
        · try simp only [decide_eq_true_eq, decide_eq_false_iff_not] at h75
          refine Seq.gn rfl rfl rfl rfl ?_
          refine Seq.gn rfl rfl rfl rfl ?_
          refine Seq.gn rfl rfl rfl rfl ?_
          refine Seq.p rfl Ev.pickT ?_
          refine Seq.nil ?_
          refine JC.cT (h := ?_)
          refine JC.rs ?_
          refine Seq.p rfl (Ev.buildN [_, _, _, _, _, _, _, _, _, _, _, _, _] pl.api_Event z.api_Event) ?_
          refine Seq.storeN [_, _, _, _, _, _, _, _, _, _, _, _, _] sz.api_Event (k := ?_)
          refine Seq.p rfl Ev.assign ?_
          refine Seq.nil ?_
          refine JC.ret ?_
          show retQ _ _ _ _ _ _ _ _
          refine retB2 ag.api_Event (hp := Part.nil _) (hpost := ?_)
          rw [hU, if_neg (fun h => h75 h.1)]
          rfl
      · -- first 8
        refine Seq.alloc (cs := [_, _, _, _, _, _, _, _, _, _, _, _, _]) (hz := z.api_Event) (k := ?_); intro b8
        refine Seq.nil ⟨(by repeat (first | exact Part.refl _ | exact Part.nil _ | apply Part.here | apply Part.skip)), ?_⟩
        refine Any.one 7 rfl (by kernel_rfl) ?_
        refine Seq.callP rfl (fun w hw => hx ▸ msgUnpackEvOf (bs := [g0, g1, g2, g3, g4, g5, g6]) (RM.up RM.own hw)) ?_
        refine Seq.nil ⟨(by repeat (first | exact Part.refl _ | exact Part.nil _ | apply Part.here | apply Part.skip)), ?_⟩
        refine Any.one 9 rfl (by kernel_rfl) ?_
        refine Seq.storeN [_, _, _, _, _, _, _, _, _, _, _, _, _] sz.api_Event (k := ?_)
        refine Seq.nil ⟨(by repeat (first | exact Part.refl _ | exact Part.nil _ | apply Part.here | apply Part.skip)), ?_⟩
        refine Any.done (by kernel_rfl) ?_
        refine JC.seq ?_
        refine JC.rs ?_
        refine Seq.p rfl (Ev.ldBA ag.api_Event) ?_
        refine Seq.callP rfl (fun w hw => hP ▸ msgPackEv) ?_
        refine Seq.p rfl Ev.move ?_
        refine Seq.p rfl Ev.extract ?_
        refine Seq.p rfl Ev.extract ?_
        refine Seq.alloc (cs := [_, _, _, _, _, _, _, _]) (hz := z.api_Frame) (k := ?_); intro b9
        refine Seq.storeN [_, _, _, _, _, _, _, _] sz.api_Frame (k := ?_)
        refine Seq.p rfl Ev.assign ?_
        refine Seq.nil ?_
        refine JC.rs ?_
        refine Seq.p rfl Ev.move ?_
        refine Seq.p rfl Ev.ne ?_
        refine Seq.p rfl Ev.move ?_
        refine Seq.split (d := 75) (k := ?_)
        rintro (_|_) h75
        · try simp only [decide_eq_true_eq, decide_eq_false_iff_not] at h75
          refine Seq.gy rfl rfl rfl ?_
          refine Seq.p rfl (Ev.ldBA ag.api_Frame) ?_
          refine Seq.gy rfl rfl rfl ?_
          refine Seq.p rfl (Ev.ldBA ag.api_Frame) ?_
          refine Seq.gy rfl rfl rfl ?_
          refine Seq.p rfl (Ev.neAg so.api_Frame ag.api_Frame gd.api_Frame) ?_
          refine Seq.p rfl Ev.pickF ?_
          refine Seq.nil ?_
          first | refine JC.c (ht := fun c79 => ?_) (hf := fun c79 => ?_) | refine JC.cb (ht := fun c79 => ?_) (hf := fun c79 => ?_)
          · -- then_t79
            refine JC.rs ?_
            refine Seq.p rfl (Ev.buildN [_, _, _, _, _, _, _, _, _, _, _, _, _] pl.api_Event z.api_Event) ?_
            refine Seq.storeN [_, _, _, _, _, _, _, _, _, _, _, _, _] sz.api_Event (k := ?_)
            refine Seq.p rfl Ev.assign ?_
            refine Seq.nil ?_
            refine JC.ret ?_
            show retQ _ _ _ _ _ _ _ _
            refine retB2 ag.api_Event (hp := Part.nil _) (hpost := ?_)
            have c80 : (!eqL (Frame.enc ⟨kk, [a0, a1, a2, a3, a4, a5, a6]⟩) (Frame.enc ⟨k, [g0, g1, g2, g3, g4, g5, g6]⟩)) = true := c79
            rw [Frame.eqL_enc] at c80
            have hne : ¬ ((⟨kk, [a0, a1, a2, a3, a4, a5, a6]⟩ : Frame) = ⟨k, [g0, g1, g2, g3, g4, g5, g6]⟩) := by intro he; rw [decide_eq_true he] at c80; cases c80
            rw [hU, if_neg (fun h => hne h.2)]
            rfl
          · -- else_t79
            refine JC.skip ?_
            refine JC.rs ?_
            refine Seq.p rfl (Ev.ldBA ag.api_Event) ?_
            refine Seq.storeN [_, _, _, _, _, _, _, _, _, _, _, _, _] sz.api_Event (k := ?_)
            refine Seq.p rfl Ev.assign ?_
            refine Seq.nil ?_
            refine JC.ret ?_
            show retQ _ _ _ _ _ _ _ _
            refine retB2 ag.api_Event (hp := Part.nil _) (hpost := ?_)
            have c80 : (!eqL (Frame.enc ⟨kk, [a0, a1, a2, a3, a4, a5, a6]⟩) (Frame.enc ⟨k, [g0, g1, g2, g3, g4, g5, g6]⟩)) = false := c79
            rw [Frame.eqL_enc] at c80
            have heq : ((⟨kk, [a0, a1, a2, a3, a4, a5, a6]⟩ : Frame) = ⟨k, [g0, g1, g2, g3, g4, g5, g6]⟩) := of_ndec c80
            rw [hU, if_pos ⟨Classical.not_not.1 h75, heq⟩]
            rfl
        · try simp only [decide_eq_true_eq, decide_eq_false_iff_not] at h75
          refine Seq.gn rfl rfl rfl rfl ?_
          refine Seq.gn rfl rfl rfl rfl ?_
          refine Seq.gn rfl rfl rfl rfl ?_
          refine Seq.p rfl Ev.pickT ?_
          refine Seq.nil ?_
          refine JC.cT (h := ?_)
          refine JC.rs ?_
          refine Seq.p rfl (Ev.buildN [_, _, _, _, _, _, _, _, _, _, _, _, _] pl.api_Event z.api_Event) ?_
          refine Seq.storeN [_, _, _, _, _, _, _, _, _, _, _, _, _] sz.api_Event (k := ?_)
          refine Seq.p rfl Ev.assign ?_
          refine Seq.nil ?_
          refine JC.ret ?_
          show retQ _ _ _ _ _ _ _ _
          refine retB2 ag.api_Event (hp := Part.nil _) (hpost := ?_)
          rw [hU, if_neg (fun h => h75 h.1)]
          rfl
    · -- first 8
      refine Seq.alloc (cs := [_, _, _, _, _, _, _, _, _, _, _, _, _]) (hz := z.api_Event) (k := ?_); intro b8
      refine Seq.nil ⟨(by repeat (first | exact Part.refl _ | exact Part.nil _ | apply Part.here | apply Part.skip)), ?_⟩
      refine Any.one 6 rfl (by kernel_rfl) ?_
      refine Seq.call rfl (fun w hw => msgSome (m := evWordsM [g0, g1, g2, g3, g4, g5, g6]) (RAt.up (RAt.own (enc := Fld.enc) (xs := fs) (sz := 3) (hs := by omega)) hw) (RM.up RM.own hw)) (F := _) (by exact List.Perm.refl _) ?_
      rintro _ _ ⟨bm, rfl, rfl⟩
      refine Seq.nil ⟨(by repeat (first | exact Part.refl _ | exact Part.nil _ | apply Part.here | apply Part.skip)), ?_⟩
      refine Any.one 7 rfl (by kernel_rfl) ?_
      refine Seq.callP rfl (fun w hw => hx ▸ msgUnpackEvOf (bs := [g0, g1, g2, g3, g4, g5, g6]) (RM.up RM.own hw)) ?_
      refine Seq.nil ⟨(by repeat (first | exact Part.refl _ | exact Part.nil _ | apply Part.here | apply Part.skip)), ?_⟩
      refine Any.one 9 rfl (by kernel_rfl) ?_
      refine Seq.storeN [_, _, _, _, _, _, _, _, _, _, _, _, _] sz.api_Event (k := ?_)
      refine Seq.nil ⟨(by repeat (first | exact Part.refl _ | exact Part.nil _ | apply Part.here | apply Part.skip)), ?_⟩
      refine Any.done (by kernel_rfl) ?_
      refine JC.seq ?_
      refine JC.rs ?_
      refine Seq.p rfl (Ev.ldBA ag.api_Event) ?_
      refine Seq.callP rfl (fun w hw => hP ▸ msgPackEv) ?_
      refine Seq.p rfl Ev.move ?_
      refine Seq.p rfl Ev.extract ?_
      refine Seq.p rfl Ev.extract ?_
      refine Seq.alloc (cs := [_, _, _, _, _, _, _, _]) (hz := z.api_Frame) (k := ?_); intro b9
      refine Seq.storeN [_, _, _, _, _, _, _, _] sz.api_Frame (k := ?_)
      refine Seq.p rfl Ev.assign ?_
      refine Seq.nil ?_
      refine JC.rs ?_
      refine Seq.p rfl Ev.move ?_
      refine Seq.p rfl Ev.ne ?_
      refine Seq.p rfl Ev.move ?_
      refine Seq.split (d := 75) (k := ?_)
      rintro (_|_) h75
      · try simp only [decide_eq_true_eq, decide_eq_false_iff_not] at h75
        refine Seq.gy rfl rfl rfl ?_
        refine Seq.p rfl (Ev.ldBA ag.api_Frame) ?_
        refine Seq.gy rfl rfl rfl ?_
        refine Seq.p rfl (Ev.ldBA ag.api_Frame) ?_
        refine Seq.gy rfl rfl rfl ?_
        refine Seq.p rfl (Ev.neAg so.api_Frame ag.api_Frame gd.api_Frame) ?_
        refine Seq.p rfl Ev.pickF ?_
        refine Seq.nil ?_
        first | refine JC.c (ht := fun c79 => ?_) (hf := fun c79 => ?_) | refine JC.cb (ht := fun c79 => ?_) (hf := fun c79 => ?_)
        · -- then_t79
          refine JC.rs ?_
          refine Seq.p rfl (Ev.buildN [_, _, _, _, _, _, _, _, _, _, _, _, _] pl.api_Event z.api_Event) ?_
          refine Seq.storeN [_, _, _, _, _, _, _, _, _, _, _, _, _] sz.api_Event (k := ?_)
          refine Seq.p rfl Ev.assign ?_
          refine Seq.nil ?_
          refine JC.ret ?_
          show retQ _ _ _ _ _ _ _ _
          refine retB2 ag.api_Event (hp := Part.nil _) (hpost := ?_)
          have c80 : (!eqL (Frame.enc ⟨kk, [a0, a1, a2, a3, a4, a5, a6]⟩) (Frame.enc ⟨k, [g0, g1, g2, g3, g4, g5, g6]⟩)) = true := c79
          rw [Frame.eqL_enc] at c80
          have hne : ¬ ((⟨kk, [a0, a1, a2, a3, a4, a5, a6]⟩ : Frame) = ⟨k, [g0, g1, g2, g3, g4, g5, g6]⟩) := by intro he; rw [decide_eq_true he] at c80; cases c80
          rw [hU, if_neg (fun h => hne h.2)]
          rfl
        · -- else_t79
          refine JC.skip ?_
          refine JC.rs ?_
          refine Seq.p rfl (Ev.ldBA ag.api_Event) ?_
          refine Seq.storeN [_, _, _, _, _, _, _, _, _, _, _, _, _] sz.api_Event (k := ?_)
          refine Seq.p rfl Ev.assign ?_
          refine Seq.nil ?_
          refine JC.ret ?_
          show retQ _ _ _ _ _ _ _ _
          refine retB2 ag.api_Event (hp := Part.nil _) (hpost := ?_)
          have c80 : (!eqL (Frame.enc ⟨kk, [a0, a1, a2, a3, a4, a5, a6]⟩) (Frame.enc ⟨k, [g0, g1, g2, g3, g4, g5, g6]⟩)) = false := c79
          rw [Frame.eqL_enc] at c80
          have heq : ((⟨kk, [a0, a1, a2, a3, a4, a5, a6]⟩ : Frame) = ⟨k, [g0, g1, g2, g3, g4, g5, g6]⟩) := of_ndec c80
          rw [hU, if_pos ⟨Classical.not_not.1 h75, heq⟩]
          rfl
      · try simp only [decide_eq_true_eq, decide_eq_false_iff_not] at h75
        refine Seq.gn rfl rfl rfl rfl ?_
        refine Seq.gn rfl rfl rfl rfl ?_
        refine Seq.gn rfl rfl rfl rfl ?_
        refine Seq.p rfl Ev.pickT ?_
        refine Seq.nil ?_
        refine JC.cT (h := ?_)
        refine JC.rs ?_
        refine Seq.p rfl (Ev.buildN [_, _, _, _, _, _, _, _, _, _, _, _, _] pl.api_Event z.api_Event) ?_
        refine Seq.storeN [_, _, _, _, _, _, _, _, _, _, _, _, _] sz.api_Event (k := ?_)
        refine Seq.p rfl Ev.assign ?_
        refine Seq.nil ?_
        refine JC.ret ?_
        show retQ _ _ _ _ _ _ _ _
        refine retB2 ag.api_Event (hp := Part.nil _) (hpost := ?_)
        rw [hU, if_neg (fun h => h75 h.1)]
        rfl
theorem msgUnpackEv {w : World} {k g0 g1 g2 g3 g4 g5 g6 : Int} (hk8 : 0 ≤ k ∧ k ≤ 255) : Spec Go.Proofs.Tryz.prog 18 #[.agg (frV k g0 g1 g2 g3 g4 g5 g6).toArray] w [] (fun u _ => u = unpackEvV (unpackEvF ⟨k, [g0, g1, g2, g3, g4, g5, g6]⟩)) := by
  rcases hF : evFieldsF (ev0 (k - 64)) with _ | fs
  · exact msgUnpackEv0 hk8 hF
  · exact msgUnpackEv1 hk8 hF
end Go.Rx
namespace Go.Rx
open Go Go.RowKit
set_option linter.unusedVariables false
set_option linter.unusedSimpArgs false
def evTakeGo (f : Frame) (l : List RF) (a : Event) : Event := l.foldl (fun a x => withEventF a x.tag (takenF f x)) a
def refUnpackEvI (f : Frame) : Event := evTakeGo f (toldRF (f.kind - 64)) (ev0 (f.kind - 64))
def refUnpackEvF (f : Frame) : Event × Int := if ¬ (1 ≤ f.kind - 64 ∧ f.kind - 64 ≤ 5) then (ev0 0, 41) else if (refPackEvF (refUnpackEvI f)).2 = 0 ∧ (refPackEvF (refUnpackEvI f)).1 = f then (refUnpackEvI f, 0) else (ev0 0, 40)
end Go.Rx
/- The law bourselaw04.MessageEvents gives true, whatever the event and the frame; the input reads as it did. No condition beyond the row's own. -/
namespace Go.Rx
open Go Go.RowKit Go.WideShapes
set_option linter.unusedVariables false
set_option linter.unusedSimpArgs false
theorem andU_m32 {g : Int} (h : 0 ≤ g ∧ g ≤ 4294967295) : andU g 4294967295 = g := by
  have h64 : (2 ^ IntKind.u64.bits : Int) = 18446744073709551616 := rfl
  have hs : IntKind.u64.signed = false := rfl
  have h1 : (BitVec.ofInt IntKind.u64.bits g).toNat = g.toNat := by
    rw [BitVec.toNat_ofInt]
    have : ((2 ^ IntKind.u64.bits : Nat) : Int) = 18446744073709551616 := rfl
    rw [this, Int.emod_eq_of_lt h.1 (by omega)]
  have h2 : (BitVec.ofInt IntKind.u64.bits 4294967295).toNat = 2 ^ 32 - 1 := rfl
  have e : (BitVec.ofInt IntKind.u64.bits g &&& BitVec.ofInt IntKind.u64.bits 4294967295).toNat = g.toNat := by
    rw [BitVec.toNat_and, h1, h2, Nat.and_two_pow_sub_one_eq_mod]
    exact Nat.mod_eq_of_lt (by omega)
  simp only [andU, IntKind.wrap, h64, hs, Bool.false_and, e]
  rw [Int.emod_eq_of_lt (by omega) (by omega)]
  simp
  omega
set_option maxRecDepth 100000 in
theorem open_event {H : Type} {enc : TypeId × Value → H} {W : World} {base : Nat} {v : Value} {d : DataW H} {p : List MemPlace} (hv : Value.okWide Go.Proofs.Tryz.prog W .any base 34 v) (h : DataW.Trod enc Go.Proofs.Tryz.prog W 0 (fun _ => true) true 34 v d p) :
    ∃ i : Event, v = .agg i.enc.toArray ∧ i.Wf := by
  obtain ⟨cs, rfl, hcs⟩ := okWide_struct Go.Proofs.Tryz.underlying34 hv
  obtain ⟨fuel, hf⟩ := h
  have hp := trod_plain 20 _ _ so.api_Event fuel _ _ hf
  have e : (Value.agg cs).cells.toList = cs.toList := rfl
  rw [e] at hp
  obtain ⟨ha, hb⟩ := hp
  obtain ⟨c0, r0, q0, i0, ha⟩ := areSorts_cons ha
  obtain ⟨c1, r1, rfl, i1, ha⟩ := areSorts_cons ha
  obtain ⟨c2, r2, rfl, i2, ha⟩ := areSorts_cons ha
  obtain ⟨c3, r3, rfl, i3, ha⟩ := areSorts_cons ha
  obtain ⟨c4, r4, rfl, i4, ha⟩ := areSorts_cons ha
  obtain ⟨c5, r5, rfl, i5, ha⟩ := areSorts_cons ha
  obtain ⟨c6, r6, rfl, i6, ha⟩ := areSorts_cons ha
  obtain ⟨c7, r7, rfl, i7, ha⟩ := areSorts_cons ha
  obtain ⟨c8, r8, rfl, i8, ha⟩ := areSorts_cons ha
  obtain ⟨c9, r9, rfl, i9, ha⟩ := areSorts_cons ha
  obtain ⟨c10, r10, rfl, i10, ha⟩ := areSorts_cons ha
  obtain ⟨c11, r11, rfl, i11, ha⟩ := areSorts_cons ha
  obtain ⟨c12, r12, rfl, i12, ha⟩ := areSorts_cons ha
  obtain rfl := areSorts_nil ha
  rw [q0] at hb
  simp only [List.all_cons, List.all_nil, Bool.and_eq_true] at hb
  obtain ⟨n0, rfl, w0⟩ := isSort_int' i0 hb.1
  obtain ⟨n1, rfl, w1⟩ := isSort_int' i1 hb.2.1
  obtain ⟨n2, rfl, w2⟩ := isSort_int' i2 hb.2.2.1
  obtain ⟨n3, rfl, w3⟩ := isSort_int' i3 hb.2.2.2.1
  obtain ⟨n4, rfl, w4⟩ := isSort_int' i4 hb.2.2.2.2.1
  obtain ⟨n5, rfl, w5⟩ := isSort_int' i5 hb.2.2.2.2.2.1
  obtain ⟨n6, rfl, w6⟩ := isSort_int' i6 hb.2.2.2.2.2.2.1
  obtain ⟨n7, rfl, w7⟩ := isSort_int' i7 hb.2.2.2.2.2.2.2.1
  obtain ⟨n8, rfl, w8⟩ := isSort_int' i8 hb.2.2.2.2.2.2.2.2.1
  obtain ⟨n9, rfl, w9⟩ := isSort_int' i9 hb.2.2.2.2.2.2.2.2.2.1
  obtain ⟨n10, rfl, w10⟩ := isSort_int' i10 hb.2.2.2.2.2.2.2.2.2.2.1
  obtain ⟨n11, rfl, w11⟩ := isSort_int' i11 hb.2.2.2.2.2.2.2.2.2.2.2.1
  obtain ⟨n12, rfl, w12⟩ := isSort_int' i12 hb.2.2.2.2.2.2.2.2.2.2.2.2.1
  refine ⟨⟨n0, n1, n2, n3, n4, n5, n6, n7, n8, n9, n10, n11, n12⟩, ?_, ⟨wf_bounds w0, wf_bounds w2, wf_bounds w3, wf_bounds w4, wf_bounds w5, wf_bounds w6, wf_bounds w7, wf_bounds w8, wf_bounds w9, wf_bounds w10, wf_bounds w11, wf_bounds w12⟩⟩
  congr 1
  apply Array.ext'
  rw [q0]
  rfl
end Go.Rx
namespace Go.Proofs.YthpejgmkiomfhaaGreatDoor
open Go Go.RowKit Go.WideShapes Go.ChangeShapes Go.ChangeAt Go.Rx
set_option linter.unusedVariables false
end Go.Proofs.YthpejgmkiomfhaaGreatDoor
/- What can be told is read back from its frame: plain. -/
namespace Go.Rx
open Go Go.RowKit
set_option linter.unusedVariables false
set_option linter.unusedSimpArgs false
theorem andU_mod32 {g : Int} (h : 0 ≤ g ∧ g ≤ 18446744073709551615) : andU g 4294967295 = g % 4294967296 := by
  have h64 : (2 ^ IntKind.u64.bits : Int) = 18446744073709551616 := rfl
  have hs : IntKind.u64.signed = false := rfl
  have h1 : (BitVec.ofInt IntKind.u64.bits g).toNat = g.toNat := by
    rw [BitVec.toNat_ofInt]
    have : ((2 ^ IntKind.u64.bits : Nat) : Int) = 18446744073709551616 := rfl
    rw [this, Int.emod_eq_of_lt h.1 (by omega)]
  have h2 : (BitVec.ofInt IntKind.u64.bits 4294967295).toNat = 2 ^ 32 - 1 := rfl
  have e : (BitVec.ofInt IntKind.u64.bits g &&& BitVec.ofInt IntKind.u64.bits 4294967295).toNat = g.toNat % 4294967296 := by
    rw [BitVec.toNat_and, h1, h2, Nat.and_two_pow_sub_one_eq_mod]
  simp only [andU, IntKind.wrap, h64, hs, Bool.false_and, e]
  rw [Int.emod_eq_of_lt (by omega) (by omega)]
  simp
  omega
theorem andU_mod8 {g : Int} (h : 0 ≤ g ∧ g ≤ 18446744073709551615) : andU g 255 = g % 256 := by
  have h64 : (2 ^ IntKind.u64.bits : Int) = 18446744073709551616 := rfl
  have hs : IntKind.u64.signed = false := rfl
  have h1 : (BitVec.ofInt IntKind.u64.bits g).toNat = g.toNat := by
    rw [BitVec.toNat_ofInt]
    have : ((2 ^ IntKind.u64.bits : Nat) : Int) = 18446744073709551616 := rfl
    rw [this, Int.emod_eq_of_lt h.1 (by omega)]
  have h2 : (BitVec.ofInt IntKind.u64.bits 255).toNat = 2 ^ 8 - 1 := rfl
  have e : (BitVec.ofInt IntKind.u64.bits g &&& BitVec.ofInt IntKind.u64.bits 255).toNat = g.toNat % 256 := by
    rw [BitVec.toNat_and, h1, h2, Nat.and_two_pow_sub_one_eq_mod]
  simp only [andU, IntKind.wrap, h64, hs, Bool.false_and, e]
  rw [Int.emod_eq_of_lt (by omega) (by omega)]
  simp
  omega
theorem down_32 (n : Int) : down n 32 = n / 4294967296 := rfl
theorem down_40 (n : Int) : down n 40 = n / 1099511627776 := rfl
theorem down_48 (n : Int) : down n 48 = n / 281474976710656 := rfl
theorem up_32 {n : Int} (h : 0 ≤ n ∧ n ≤ 4294967295) : up n 32 = n * 4294967296 := by
  show (n * 4294967296) % 18446744073709551616 = _
  omega
theorem up_40 {n : Int} (h : 0 ≤ n ∧ n ≤ 255) : up n 40 = n * 1099511627776 := by
  show (n * 1099511627776) % 18446744073709551616 = _
  omega
theorem up_48 {n : Int} (h : 0 ≤ n ∧ n ≤ 255) : up n 48 = n * 281474976710656 := by
  show (n * 281474976710656) % 18446744073709551616 = _
  omega
theorem word_parts {m s t r : Int} (hm : 0 ≤ m ∧ m ≤ 4294967295) (hs : 0 ≤ s ∧ s ≤ 255) (ht : 0 ≤ t ∧ t ≤ 255) (hr : 0 ≤ r ∧ r ≤ 255) (w : Int) (hw : w = m + s * 4294967296 + t * 1099511627776 + r * 281474976710656) :
    andU w 4294967295 = m ∧ andU (down w 32) 255 = s ∧ andU (down w 40) 255 = t ∧ andU (down w 48) 255 = r := by
  rw [andU_mod32 (by omega), down_32, down_40, down_48, andU_mod8 (by omega), andU_mod8 (by omega), andU_mod8 (by omega)]
  omega
theorem fits_up {t n m : Int} (h : (upToF t n m).fits = true) : 0 ≤ n ∧ n ≤ m := by
  simp only [upToF, Bool.and_eq_true, decide_eq_true_eq] at h
  exact h
theorem pack_back {i : Input} (hw : i.Wf) (h : toldE i = 0) : unpackF (packF i).1 = (i, 0) := by
  have hp : packF i = ((packF i).1, 0) := by
    have : (packF i).2 = 0 := by unfold packF; rw [if_pos h]
    rw [← this]
  have key : (¬ ((packF i).1.kind < 1 ∨ 4 < (packF i).1.kind)) ∧ unpackI (packF i).1 = i := by
    have hid := hw.id; have htg := hw.target; have hme := hw.member; have hqt := hw.qty; have hpk := hw.peak
    obtain ⟨k, s, fs, hF⟩ : ∃ k s fs, fieldsF i = some (k, s, fs) := by
      unfold toldE at h
      cases hF : fieldsF i with
      | none => rw [hF] at h; cases h
      | some p => obtain ⟨k, s, fs⟩ := p; exact ⟨k, s, fs, rfl⟩
    have hc : fs.all (·.fits) = true ∧ inputF k (numsF fs) = i := by
      unfold toldE at h
      rw [hF] at h
      dsimp only at h
      split at h
      · rename_i hc; exact hc
      · cases h
    have hP : (packF i).1 = frameF k (numsF fs) := by unfold packF; rw [if_pos h, hF]
    rw [hP]
    obtain ⟨hf, he⟩ := hc
    clear hP hp h
    obtain ⟨kind, ckind, id, target, member, side, type, price, qty, peak, engine⟩ := i
    dsimp only at hid htg hme hqt hpk
    unfold fieldsF at hF
    dsimp only at hF
    split at hF
    · simp only [Option.some.injEq, Prod.mk.injEq] at hF
      obtain ⟨rfl, _, rfl⟩ := hF
      simp only [List.all_cons, List.all_nil, Bool.and_true] at hf
      have hb := fits_up hf
      refine ⟨by show ¬ ((4 : Int) < 1 ∨ (4 : Int) < 4); decide, ?_⟩
      rw [← he]
      show (⟨2, 0, 0, 0, 0, 0, 0, 0, 0, 0, s64 (add64 0 (engine % 18446744073709551616))⟩ : Input) = ⟨2, 0, 0, 0, 0, 0, 0, 0, 0, 0, s64 (engine % 18446744073709551616)⟩
      rw [show add64 0 (engine % 18446744073709551616) = engine % 18446744073709551616 by unfold add64; omega]
    · split at hF
      · cases hF
      · split at hF
        · simp only [Option.some.injEq, Prod.mk.injEq] at hF
          obtain ⟨rfl, _, rfl⟩ := hF
          simp only [List.all_cons, List.all_nil, Bool.and_true, Bool.and_eq_true] at hf
          have hb1 := fits_up hf.2.2.1
          have hb2 := fits_up hf.2.2.2.1
          have hb3 := fits_up hf.2.2.2.2.1
          refine ⟨by show ¬ ((1 : Int) < 1 ∨ (4 : Int) < 1); decide, ?_⟩
          have hA : numsF [wholeF 11 id, wholeF 1 (member % 18446744073709551616), upToF 54 side 255, upToF 40 type 255, upToF 44 price 4294967295, wholeF 38 qty, wholeF 210 peak] = [(11, id), (1, member % 18446744073709551616), (54, side % 18446744073709551616), (40, type % 18446744073709551616), (44, price % 18446744073709551616), (38, qty), (210, peak)] := rfl
          rw [hA] at he ⊢
          have hm' : member % 18446744073709551616 = member := by omega
          have hs' : side % 18446744073709551616 = side := by omega
          have ht' : type % 18446744073709551616 = type := by omega
          have hp' : price % 18446744073709551616 = price := by omega
          rw [hm', hs', ht', hp'] at he ⊢
          rw [← he]
          show inp1 (add64 id 0) (add64 (add64 member (up side 32)) (up type 40)) price qty peak = (⟨1, 1, id, 0, member % 4294967296, s64 side, s64 type, s64 price, qty, peak, 0⟩ : Input)
          have e0 : add64 id 0 = id := by unfold add64; omega
          have ew : add64 (add64 member (up side 32)) (up type 40) = member + side * 4294967296 + type * 1099511627776 + 0 * 281474976710656 := by
            rw [up_32 (by omega), up_40 (by omega)]
            unfold add64
            omega
          obtain ⟨w1, w2, w3, _⟩ := word_parts (m := member) (s := side) (t := type) (r := 0) (by omega) (by omega) (by omega) (by omega) _ ew
          unfold inp1
          rw [e0, w1, w2, w3, andU_m32 (by omega)]
        · split at hF
          · simp only [Option.some.injEq, Prod.mk.injEq] at hF
            obtain ⟨rfl, _, rfl⟩ := hF
            refine ⟨by show ¬ ((2 : Int) < 1 ∨ (4 : Int) < 2); decide, ?_⟩
            rw [← he]
            rfl
          · split at hF
            · simp only [Option.some.injEq, Prod.mk.injEq] at hF
              obtain ⟨rfl, _, rfl⟩ := hF
              simp only [List.all_cons, List.all_nil, Bool.and_true, Bool.and_eq_true] at hf
              have hb3 := fits_up hf.2.2.1
              refine ⟨by show ¬ ((3 : Int) < 1 ∨ (4 : Int) < 3); decide, ?_⟩
              have hp' : price % 18446744073709551616 = price := by omega
              have hA : numsF [wholeF 41 target, wholeF 11 id, upToF 44 price 4294967295, wholeF 38 qty, wholeF 210 peak] = [(41, target), (11, id), (44, price % 18446744073709551616), (38, qty), (210, peak)] := rfl
              rw [hA, hp'] at he ⊢
              rw [← he]
              show inp3 (add64 id 0) target price qty peak = (⟨1, 3, id, target, 0, 0, 0, s64 price, qty, peak, 0⟩ : Input)
              have e0 : add64 id 0 = id := by unfold add64; omega
              unfold inp3
              rw [e0, andU_m32 (by omega)]
            · cases hF
  unfold unpackF
  rw [if_neg key.1, key.2, hp]
  exact if_pos ⟨rfl, rfl⟩
end Go.Rx
/- The shelf's contracts at this program (written by the kit's tools lay-shelf and lay-plain; picked by shelf2.py). -/
namespace Go.Proofs
open Go.Shelf
open Go.RowKit in
theorem Tryz.strconv_Atoi_ok (s : ByteArray) (hmax : s.size ≤ 9223372036854775806) (v : Int) (h : Lib.atoiAll s.data.toList = .ok v) (w : World) :
    Calls Tryz.prog 96 #[.string s] w fun e w' => e = .returned (.tuple #[.int .i64 v, .nilIface]) ∧ (w' = w ∨ ∃ t, w' = Lib.bytesWorld w 5 t) := Any.strconv_Atoi_ok Tryz.laysC172 s hmax v h w
open Go.RowKit in
theorem Tryz.strconv_Atoi_syntax_var (s : ByteArray) (hlim : s.size ≤ 281474976710656) (h : Lib.atoiAll s.data.toList = Lib.atoiAll []) (tp : TypeId) (p : Value) (w : World) (hvar : w.var? Tryz.prog "strconv.ErrSyntax" = some #[.iface tp p]) :
    Calls Tryz.prog 96 #[.string s] w fun e w' => ∃ N, e = .returned (.tuple #[.int .i64 0, .iface 168 (.pointer (some ⟨N, 0, none⟩))]) ∧ w.heap.size ≤ N ∧ w'.heap[N]? = some (.cells #[.string ⟨#[65, 116, 111, 105]⟩, .string s, .iface tp p] 183 (0, 0)) ∧ Below w.heap.size w w' := Any.strconv_Atoi_syntax_var Tryz.laysC172 s hlim (h.trans rfl) tp p w hvar
def Tryz.lays219_ren : Go.Shelf.Ren := ⟨fun | 219 => 126 | 217 => 131 | 225 => 132 | 224 => 133 | 267 => 134 | 266 => 135 | 314 => 136 | n => n, fun | 9 => 9 | 3 => 3 | 4 => 4 | 5 => 5 | 46 => 82 | 146 => 193 | 51 => 25 | n => n, fun | 1 => 0 | n => n⟩
theorem Tryz.lays219 : Go.Proofs.Lays.n219 Tryz.prog Tryz.lays219_ren := {
  mixed := by kernel_rfl
  f217 := Tryz.func131.trans (congrArg some (by kernel_rfl))
  f219 := Tryz.func126.trans (congrArg some (by kernel_rfl))
  f224 := Tryz.func133.trans (congrArg some (by kernel_rfl))
  f225 := Tryz.func132.trans (congrArg some (by kernel_rfl))
  f266 := Tryz.func135.trans (congrArg some (by kernel_rfl))
  f267 := Tryz.func134.trans (congrArg some (by kernel_rfl))
  f314 := Tryz.func136.trans (congrArg some (by kernel_rfl))
  t3 := Tryz.underlying3
  a3 := Tryz.isAgg3
  z3 := Tryz.sizeOf3
  v3 := Tryz.zeroValue3
  t4 := Tryz.underlying4
  a4 := Tryz.isAgg4
  z4 := Tryz.sizeOf4
  v4 := Tryz.zeroValue4
  t5 := Tryz.underlying5
  a5 := Tryz.isAgg5
  z5 := Tryz.sizeOf5
  v5 := Tryz.zeroValue5
  t9 := Tryz.underlying9
  a9 := Tryz.isAgg9
  z9 := Tryz.sizeOf9
  v9 := Tryz.zeroValue9
  t46 := Tryz.underlying82
  a46 := Tryz.isAgg82
  z46 := Tryz.sizeOf82
  v46 := Tryz.zeroValue82
  t51 := Tryz.underlying25
  a51 := Tryz.isAgg25
  z51 := Tryz.sizeOf25
  v51 := Tryz.zeroValue25
  t146 := Tryz.underlying193
  a146 := Tryz.isAgg193
  z146 := Tryz.sizeOf193
  v146 := Tryz.zeroValue193
  g1 := by kernel_rfl }
open Go.RowKit Go.Lib in
theorem Tryz.stringslite_Index_one (s : ByteArray) (c : UInt8) (w : World) :
    Calls Tryz.prog 126 #[.string s, .string ⟨#[c]⟩] w fun e w' => e = .returned (.int .i64 (Lib.indexByte s.data.toList c)) ∧ w' = w := Any.stringslite_Index_one Tryz.lays219 s c w
def Tryz.laysGw17_ren : Go.Shelf.Ren := ⟨fun | 17 => 85 | 15 => 101 | 20 => 118 | n => n, fun | 9 => 9 | 23 => 144 | 4 => 4 | 3 => 3 | 0 => 0 | 21 => 21 | n => n, fun | n => n⟩
theorem Tryz.laysGw17 : Go.Proofs.LaysGw.n17 Tryz.prog Tryz.laysGw17_ren := {
  mixed := by kernel_rfl
  f15 := Tryz.func101.trans (congrArg some (by kernel_rfl))
  f17 := Tryz.func85.trans (congrArg some (by kernel_rfl))
  f20 := Tryz.func118.trans (congrArg some (by kernel_rfl))
  t0 := Tryz.underlying0
  a0 := Tryz.isAgg0
  z0 := Tryz.sizeOf0
  v0 := Tryz.zeroValue0
  i0 := by kernel_rfl
  t3 := Tryz.underlying3
  a3 := Tryz.isAgg3
  z3 := Tryz.sizeOf3
  v3 := Tryz.zeroValue3
  i3 := by kernel_rfl
  t4 := Tryz.underlying4
  a4 := Tryz.isAgg4
  z4 := Tryz.sizeOf4
  v4 := Tryz.zeroValue4
  i4 := by kernel_rfl
  t9 := Tryz.underlying9
  a9 := Tryz.isAgg9
  z9 := Tryz.sizeOf9
  v9 := Tryz.zeroValue9
  i9 := by kernel_rfl
  t21 := Tryz.underlying21
  a21 := Tryz.isAgg21
  z21 := Tryz.sizeOf21
  v21 := Tryz.zeroValue21
  i21 := by kernel_rfl
  t23 := Tryz.underlying144
  a23 := Tryz.isAgg144
  z23 := Tryz.sizeOf144
  v23 := Tryz.zeroValue144
  i23 := by kernel_rfl }
open Go.RowKit Go.Lib in
theorem Tryz.strings_ContainsFunc_grows (g : Nat) (lb : Array Value) (eg : ∀ args w, (callFunc g args).run Tryz.prog w = .ok (.enter g args) w) (p : Nat → Bool) (s : ByteArray) (w : World) (hp : PredGrows Tryz.prog g lb p w) :
    Calls Tryz.prog 85 #[.string s, .func (.func g) #[] lb] w fun e w' => e = .returned (.bool (decide (0 ≤ Lib.idxFunc p true s))) ∧ Below w.heap.size w w' := Any.strings_ContainsFunc_grows Tryz.laysGw17 g lb eg p s w hp
def Tryz.lays107_ren : Go.Shelf.Ren := ⟨fun | 107 => 102 | 108 => 119 | n => n, fun | 28 => 157 | 3 => 3 | 4 => 4 | 0 => 0 | n => n, fun | n => n⟩
theorem Tryz.lays107 : Go.Proofs.Lays.n107 Tryz.prog Tryz.lays107_ren := {
  mixed := by kernel_rfl
  f107 := Tryz.func102.trans (congrArg some (by kernel_rfl))
  f108 := Tryz.func119.trans (congrArg some (by kernel_rfl))
  t0 := Tryz.underlying0
  a0 := Tryz.isAgg0
  z0 := Tryz.sizeOf0
  v0 := Tryz.zeroValue0
  t3 := Tryz.underlying3
  a3 := Tryz.isAgg3
  z3 := Tryz.sizeOf3
  v3 := Tryz.zeroValue3
  t4 := Tryz.underlying4
  a4 := Tryz.isAgg4
  z4 := Tryz.sizeOf4
  v4 := Tryz.zeroValue4
  t28 := Tryz.underlying157
  a28 := Tryz.isAgg157
  z28 := Tryz.sizeOf157
  v28 := Tryz.zeroValue157 }
open Go.Lib in
theorem Tryz.slices_Contains_int (b off n c : Nat) (zs : List Int) (x : Int) (w : World) (hz : n ≤ zs.length) (hbig : n ≤ 9223372036854775807) (hc : ∀ j, j < zs.length → w.cell? ⟨b, off + j, none⟩ = some (.int .i64 (zs.getD j 0))) :
    Calls Tryz.prog 102 #[.slice (some ⟨b, off, none⟩) n c, .int .i64 x] w fun e w' => e = .returned (.bool ((zs.take n).contains x)) ∧ w' = w := Any.slices_Contains_int Tryz.lays107 b off n c zs x w hz hbig hc
def Tryz.lays109_ren : Go.Shelf.Ren := ⟨fun | 109 => 20 | n => n, fun | 31 => 59 | 9 => 9 | 3 => 3 | 0 => 0 | 4 => 4 | n => n, fun | n => n⟩
theorem Tryz.lays109 : Go.Proofs.Lays.n109 Tryz.prog Tryz.lays109_ren := {
  mixed := by kernel_rfl
  f109 := Tryz.func20.trans (congrArg some (by kernel_rfl))
  t0 := Tryz.underlying0
  a0 := Tryz.isAgg0
  z0 := Tryz.sizeOf0
  v0 := Tryz.zeroValue0
  t3 := Tryz.underlying3
  a3 := Tryz.isAgg3
  z3 := Tryz.sizeOf3
  v3 := Tryz.zeroValue3
  t4 := Tryz.underlying4
  a4 := Tryz.isAgg4
  z4 := Tryz.sizeOf4
  v4 := Tryz.zeroValue4
  t9 := Tryz.underlying9
  a9 := Tryz.isAgg9
  z9 := Tryz.sizeOf9
  v9 := Tryz.zeroValue9
  t31 := Tryz.underlying59
  a31 := Tryz.isAgg59
  z31 := Tryz.sizeOf59
  v31 := Tryz.zeroValue59 }
open Go.Lib in
theorem Tryz.slices_Index_string (b off n c : Nat) (zs : List ByteArray) (x : ByteArray) (w : World) (hz : n ≤ zs.length) (hbig : n ≤ 9223372036854775807) (hc : ∀ j, j < zs.length → w.cell? ⟨b, off + j, none⟩ = some (.string (zs.getD j ByteArray.empty))) :
    Calls Tryz.prog 20 #[.slice (some ⟨b, off, none⟩) n c, .string x] w fun e w' => e = .returned (.int .i64 (Lib.idxOfS (zs.take n) x)) ∧ w' = w := Any.slices_Index_string Tryz.lays109 b off n c zs x w hz hbig hc
def Tryz.lays110_ren : Go.Shelf.Ren := ⟨fun | 110 => 30 | 109 => 20 | n => n, fun | 31 => 59 | 9 => 9 | 4 => 4 | 3 => 3 | 0 => 0 | n => n, fun | n => n⟩
theorem Tryz.lays110 : Go.Proofs.Lays.n110 Tryz.prog Tryz.lays110_ren := {
  mixed := by kernel_rfl
  f109 := Tryz.func20.trans (congrArg some (by kernel_rfl))
  f110 := Tryz.func30.trans (congrArg some (by kernel_rfl))
  t0 := Tryz.underlying0
  a0 := Tryz.isAgg0
  z0 := Tryz.sizeOf0
  v0 := Tryz.zeroValue0
  t3 := Tryz.underlying3
  a3 := Tryz.isAgg3
  z3 := Tryz.sizeOf3
  v3 := Tryz.zeroValue3
  t4 := Tryz.underlying4
  a4 := Tryz.isAgg4
  z4 := Tryz.sizeOf4
  v4 := Tryz.zeroValue4
  t9 := Tryz.underlying9
  a9 := Tryz.isAgg9
  z9 := Tryz.sizeOf9
  v9 := Tryz.zeroValue9
  t31 := Tryz.underlying59
  a31 := Tryz.isAgg59
  z31 := Tryz.sizeOf59
  v31 := Tryz.zeroValue59 }
open Go.Lib in
theorem Tryz.slices_Contains_string (b off n c : Nat) (zs : List ByteArray) (x : ByteArray) (w : World) (hz : n ≤ zs.length) (hbig : n ≤ 9223372036854775807) (hc : ∀ j, j < zs.length → w.cell? ⟨b, off + j, none⟩ = some (.string (zs.getD j ByteArray.empty))) :
    Calls Tryz.prog 30 #[.slice (some ⟨b, off, none⟩) n c, .string x] w fun e w' => e = .returned (.bool (Lib.containsS (zs.take n) x)) ∧ w' = w := Any.slices_Contains_string Tryz.lays110 b off n c zs x w hz hbig hc
def Tryz.lays187_ren : Go.Shelf.Ren := ⟨fun | 187 => 69 | 255 => 97 | n => n, fun | 37 => 22 | 5 => 5 | 3 => 3 | n => n, fun | n => n⟩
theorem Tryz.lays187 : Go.Proofs.Lays.n187 Tryz.prog Tryz.lays187_ren := {
  mixed := by kernel_rfl
  f187 := Tryz.func69.trans (congrArg some (by kernel_rfl))
  f255 := Tryz.func97.trans (congrArg some (by kernel_rfl))
  t3 := Tryz.underlying3
  a3 := Tryz.isAgg3
  z3 := Tryz.sizeOf3
  v3 := Tryz.zeroValue3
  t5 := Tryz.underlying5
  a5 := Tryz.isAgg5
  z5 := Tryz.sizeOf5
  v5 := Tryz.zeroValue5
  t37 := Tryz.underlying22
  a37 := Tryz.isAgg22
  z37 := Tryz.sizeOf22
  v37 := Tryz.zeroValue22 }
open Go.RowKit Go.Lib in
theorem Tryz.bytes_IndexByte_at (a : Addr) (n c : Nat) (xs : List Int) (cv : Int) (w : World) (hx : xs.length = n) (hc : ∀ i, i < n → w.cell? (a.add i) = some (.int .u8 (xs.getD i 0))) :
    Calls Tryz.prog 69 #[.slice (some a) n c, .int .u8 cv] w fun e w' => e = .returned (.int .i64 (Lib.indexByte (Lib.bytesOf xs) cv.toNat.toUInt8)) ∧ w' = w := Any.bytes_IndexByte_at Tryz.lays187 a n c xs cv w hx hc
end Go.Proofs
/- Kinds, tags and refusals of the program. -/
namespace Go.Proofs.YthpejgmkiomfhaaGreatDoor
open Go Go.RowKit Go.Lib Go.Rx
set_option linter.unusedVariables false
def notAlnum (x : Nat) : Bool := !alnum (x : Int)
theorem alnum_high {x : Int} (h : 128 ≤ x) : alnum x = false := by
  unfold alnum
  simp only [Bool.or_eq_false_iff, Bool.and_eq_false_iff, decide_eq_false_iff_not]
  omega
theorem idx_alnum (s : ByteArray) : ∀ (f pos : Nat), s.size ≤ pos + f → (idxFuncFrom notAlnum true s f pos = -1 ↔ ∀ i, pos ≤ i → i < s.size → alnum (bAt s i) = true)
  | 0, pos, h => by
    simp only [idxFuncFrom, true_iff]
    intro i h1 h2
    omega
  | f + 1, pos, h => by
    unfold idxFuncFrom
    by_cases hp : pos < s.size
    · rw [if_pos hp]
      have hb : bAt s pos = ((s[pos]'hp).toNat : Int) := by
        have hl : pos < s.data.toList.length := by simpa using hp
        unfold bAt
        rw [List.getElem?_eq_getElem hl]
        rfl
      by_cases ha : (s[pos]'hp).toNat < 128
      · rw [decode_ascii s pos hp ha]
        dsimp only
        by_cases hq : alnum (bAt s pos) = true
        · have e : notAlnum (s[pos]'hp).toNat = false := by unfold notAlnum; rw [← hb, hq]; rfl
          rw [e, if_neg (by simp), idx_alnum s f (pos + 1) (by omega)]
          constructor
          · intro hh i h1 h2
            rcases Nat.eq_or_lt_of_le h1 with rfl | h3
            · exact hq
            · exact hh i h3 h2
          · intro hh i h1 h2
            exact hh i (by omega) h2
        · have hq' : alnum (bAt s pos) = false := by simpa using hq
          have e : notAlnum (s[pos]'hp).toNat = true := by unfold notAlnum; rw [← hb, hq']; rfl
          rw [e, if_pos rfl]
          constructor
          · intro hh; omega
          · intro hh; exact absurd (hh pos (Nat.le_refl _) hp) hq
      · have hd := decode_high s pos hp (by omega)
        have e : notAlnum (Utf8.decode s pos).1 = true := by unfold notAlnum; rw [alnum_high (by omega)]; rfl
        rw [e, if_pos rfl]
        constructor
        · intro hh; omega
        · intro hh
          have := hh pos (Nat.le_refl _) hp
          rw [alnum_high (by rw [hb]; omega)] at this
          cases this
    · rw [if_neg hp]
      simp only [true_iff]
      intro i h1 h2
      omega
theorem kind_idx {s : ByteArray} (h : 1 ≤ s.size ∧ s.size ≤ 2) : (!decide (0 ≤ idxFunc notAlnum true s)) = kindB s := by
  have hr := idxFunc_range notAlnum true s
  have hi := idx_alnum s s.size 0 (by omega)
  have e : (decide (s.size = 1) || decide (s.size = 2)) = true := by
    simp only [Bool.or_eq_true, decide_eq_true_eq]
    omega
  unfold kindB
  rw [e, Bool.true_and]
  cases ha : (bytesOf s).all alnum with
  | true =>
    have h1 : idxFunc notAlnum true s = -1 := hi.2 fun i _ h2 => bytesOf_all.1 ha i h2
    rw [h1]
    rfl
  | false =>
    have h1 : ¬ idxFunc notAlnum true s = -1 := fun hh => by
      have := bytesOf_all.2 fun i h2 => hi.1 hh i (Nat.zero_le _) h2
      rw [ha] at this
      cases this
    have h2 : 0 ≤ idxFunc notAlnum true s := by omega
    rw [decide_eq_true h2]
    rfl
theorem kindB_size {s : ByteArray} (h : ¬ (1 ≤ s.size ∧ s.size ≤ 2)) : kindB s = false := by
  have e : (decide (s.size = 1) || decide (s.size = 2)) = false := by
    simp only [Bool.or_eq_false_iff, decide_eq_false_iff_not]
    omega
  unfold kindB
  rw [e, Bool.false_and]
end Go.Proofs.YthpejgmkiomfhaaGreatDoor
namespace Go.Rx
open Go Go.RowKit Go.Proofs.YthpejgmkiomfhaaGreatDoor
set_option linter.unusedVariables false
set_option maxRecDepth 100000 in
theorem kindClosure {w : World} {x : Int} : Spec Go.Proofs.Tryz.prog 86 #[.int .i32 x] w [] (fun u _ => u = .bool (!alnum x)) := by
  refine Spec.enter (fn := Go.Proofs.Tryz.f86) (n := 28) [.int .i32 x] Go.Proofs.Tryz.func86 (by kernel_rfl) rfl Go.Proofs.Tryz.ntmps86 Go.Proofs.Tryz.results86 rfl (Own.nil _) ?_
  refine JC.rs ?_
  refine Seq.p rfl Ev.assign ?_
  refine Seq.nil ?_
  refine JC.rs ?_
  refine Seq.p rfl Ev.move ?_
  refine Seq.p rfl Ev.ge ?_
  refine Seq.p rfl Ev.move ?_
  refine Seq.andG (D := [5, 6, 7, 8]) (d := 5) (t := 8) (k := 3) (hn := fun h5 => ?_) (hx := ?_)
  · repeat (first | refine Seq.gn rfl rfl rfl rfl ?_ | refine Seq.gu rfl rfl rfl ?_)
    refine Seq.p rfl Ev.pickF ?_
    exact Seq.nil ⟨rfl, (by repeat (first | with_reducible exact Off.refl | refine Off.upd ?_ rfl | exact Off.mix | refine Off.mix2 ?_ rfl)), Look.here⟩
  apply Exists.intro
  refine ⟨fun h5 => ?_, fun u8 => ?_⟩
  · try simp only [decide_eq_true_eq, decide_eq_false_iff_not, Bool.and_eq_true, Bool.or_eq_true, Bool.not_eq_true', Bool.not_eq_false', Bool.or_eq_false_iff, Bool.and_eq_false_imp] at h5
    refine Seq.gy rfl rfl rfl ?_
    refine Seq.p rfl Ev.move ?_
    refine Seq.gy rfl rfl rfl ?_
    refine Seq.p rfl Ev.le ?_
    refine Seq.p rfl Ev.pickT ?_
    exact Seq.nil ⟨rfl, (by repeat (first | with_reducible exact Off.refl | refine Off.upd ?_ rfl | exact Off.mix | refine Off.mix2 ?_ rfl)), Look.here⟩
  refine Seq.p rfl Ev.not ?_
  refine Seq.p rfl Ev.move ?_
  refine Seq.andG (D := [10, 11, 12, 13, 14, 15, 16, 17, 18]) (d := 10) (t := 18) (k := 8) (hn := fun h10 => ?_) (hx := ?_)
  · repeat (first | refine Seq.gn rfl rfl rfl rfl ?_ | refine Seq.gu rfl rfl rfl ?_)
    refine Seq.p rfl Ev.pickF ?_
    exact Seq.nil ⟨rfl, (by repeat (first | with_reducible exact Off.refl | refine Off.upd ?_ rfl | exact Off.mix | refine Off.mix2 ?_ rfl)), Look.here⟩
  apply Exists.intro
  refine ⟨fun h10 => ?_, fun u18 => ?_⟩
  · try simp only [decide_eq_true_eq, decide_eq_false_iff_not, Bool.and_eq_true, Bool.or_eq_true, Bool.not_eq_true', Bool.not_eq_false', Bool.or_eq_false_iff, Bool.and_eq_false_imp] at h10
    refine Seq.gy rfl rfl rfl ?_
    refine Seq.p rfl Ev.move ?_
    refine Seq.gy rfl rfl rfl ?_
    refine Seq.p rfl Ev.ge ?_
    refine Seq.gy rfl rfl rfl ?_
    refine Seq.p rfl Ev.move ?_
    refine Seq.andG (D := [13, 14, 15, 16]) (d := 13) (t := 16) (k := 3) (hn := fun h13 => ?_) (hx := ?_)
    · repeat (first | refine Seq.gn rfl rfl rfl rfl ?_ | refine Seq.gu rfl rfl rfl ?_)
      refine Seq.gy rfl rfl rfl ?_
      refine Seq.p rfl Ev.pickF ?_
      exact Seq.nil ⟨rfl, (by repeat (first | with_reducible exact Off.refl | refine Off.upd ?_ rfl | exact Off.mix | refine Off.mix2 ?_ rfl)), Look.here⟩
    apply Exists.intro
    refine ⟨fun h13 => ?_, fun u16 => ?_⟩
    · try simp only [decide_eq_true_eq, decide_eq_false_iff_not, Bool.and_eq_true, Bool.or_eq_true, Bool.not_eq_true', Bool.not_eq_false', Bool.or_eq_false_iff, Bool.and_eq_false_imp] at h13
      refine Seq.gy rfl rfl rfl ?_
      refine Seq.p rfl Ev.move ?_
      refine Seq.gy rfl rfl rfl ?_
      refine Seq.p rfl Ev.le ?_
      refine Seq.gy rfl rfl rfl ?_
      refine Seq.p rfl Ev.pickT ?_
      exact Seq.nil ⟨rfl, (by repeat (first | with_reducible exact Off.refl | refine Off.upd ?_ rfl | exact Off.mix | refine Off.mix2 ?_ rfl)), Look.here⟩
    refine Seq.gy rfl rfl rfl ?_
    refine Seq.p rfl Ev.not ?_
    refine Seq.p rfl Ev.pickT ?_
    exact Seq.nil ⟨rfl, (by repeat (first | with_reducible exact Off.refl | refine Off.upd ?_ rfl | exact Off.mix | refine Off.mix2 ?_ rfl)), Look.here⟩
  refine Seq.p rfl Ev.move ?_
  refine Seq.andG (D := [19, 20, 21, 22, 23, 24, 25, 26, 27]) (d := 19) (t := 27) (k := 8) (hn := fun h19 => ?_) (hx := ?_)
  · repeat (first | refine Seq.gn rfl rfl rfl rfl ?_ | refine Seq.gu rfl rfl rfl ?_)
    refine Seq.p rfl Ev.pickF ?_
    exact Seq.nil ⟨rfl, (by repeat (first | with_reducible exact Off.refl | refine Off.upd ?_ rfl | exact Off.mix | refine Off.mix2 ?_ rfl)), Look.here⟩
  apply Exists.intro
  refine ⟨fun h19 => ?_, fun u27 => ?_⟩
  · try simp only [decide_eq_true_eq, decide_eq_false_iff_not, Bool.and_eq_true, Bool.or_eq_true, Bool.not_eq_true', Bool.not_eq_false', Bool.or_eq_false_iff, Bool.and_eq_false_imp] at h19
    refine Seq.gy rfl rfl rfl ?_
    refine Seq.p rfl Ev.move ?_
    refine Seq.gy rfl rfl rfl ?_
    refine Seq.p rfl Ev.ge ?_
    refine Seq.gy rfl rfl rfl ?_
    refine Seq.p rfl Ev.move ?_
    refine Seq.andG (D := [22, 23, 24, 25]) (d := 22) (t := 25) (k := 3) (hn := fun h22 => ?_) (hx := ?_)
    · repeat (first | refine Seq.gn rfl rfl rfl rfl ?_ | refine Seq.gu rfl rfl rfl ?_)
      refine Seq.gy rfl rfl rfl ?_
      refine Seq.p rfl Ev.pickF ?_
      exact Seq.nil ⟨rfl, (by repeat (first | with_reducible exact Off.refl | refine Off.upd ?_ rfl | exact Off.mix | refine Off.mix2 ?_ rfl)), Look.here⟩
    apply Exists.intro
    refine ⟨fun h22 => ?_, fun u25 => ?_⟩
    · try simp only [decide_eq_true_eq, decide_eq_false_iff_not, Bool.and_eq_true, Bool.or_eq_true, Bool.not_eq_true', Bool.not_eq_false', Bool.or_eq_false_iff, Bool.and_eq_false_imp] at h22
      refine Seq.gy rfl rfl rfl ?_
      refine Seq.p rfl Ev.move ?_
      refine Seq.gy rfl rfl rfl ?_
      refine Seq.p rfl Ev.le ?_
      refine Seq.gy rfl rfl rfl ?_
      refine Seq.p rfl Ev.pickT ?_
      exact Seq.nil ⟨rfl, (by repeat (first | with_reducible exact Off.refl | refine Off.upd ?_ rfl | exact Off.mix | refine Off.mix2 ?_ rfl)), Look.here⟩
    refine Seq.gy rfl rfl rfl ?_
    refine Seq.p rfl Ev.not ?_
    refine Seq.p rfl Ev.pickT ?_
    exact Seq.nil ⟨rfl, (by repeat (first | with_reducible exact Off.refl | refine Off.upd ?_ rfl | exact Off.mix | refine Off.mix2 ?_ rfl)), Look.here⟩
  refine Seq.p rfl Ev.assign ?_
  refine Seq.nil ?_
  refine JC.ret ?_
  show retQ _ _ _ _ _ _ _ _
  refine ret1 (hp := Part.nil _) (hpost := ?_)
  unfold alnum
  simp [Bool.not_or]
end Go.Rx
namespace Go.Proofs.YthpejgmkiomfhaaGreatDoor
open Go Go.RowKit Go.Lib Go.Rx
set_option linter.unusedVariables false
set_option maxHeartbeats 1000000 in
set_option maxRecDepth 100000 in
theorem isKindC {s : ByteArray} (hs : s.size ≤ 281474976710656) (w : World) : Calls Go.Proofs.Tryz.prog 56 #[.string s] w fun e w' => e = .returned (.bool (kindB s)) ∧ Below w.heap.size w w' := by
  by_cases h : 1 ≤ s.size ∧ s.size ≤ 2
  · have hp : ∀ w, PredGrows Go.Proofs.Tryz.prog 86 #[] notAlnum w := by
      intro w W x _ _
      refine (kindClosure (w := W) (x := (x : Int))).2.mono ?_
      rintro e w' ⟨_, H', rfl, hu, rfl⟩
      exact ⟨rfl, hu.below'⟩
    have e57 : ∀ args w, (callFunc 86 args).run Go.Proofs.Tryz.prog w = .ok (.enter 86 args) w := enters_of Go.Proofs.Tryz.func86 (by kernel_rfl) rfl
    have hk := kind_idx h
    obtain ⟨I, hI⟩ : ∃ I, idxFunc notAlnum true s = I := ⟨_, rfl⟩
    have hc := fun w => Go.Proofs.Tryz.strings_ContainsFunc_grows 86 #[] e57 notAlnum s w (hp w)
    rw [hI] at hk
    simp only [hI] at hc
    obtain ⟨b, hb⟩ : ∃ b, decide (0 ≤ I) = b := ⟨_, rfl⟩
    rw [hb] at hk
    simp only [hb] at hc
    go_enter Go.Proofs.Tryz.func56, Go.Proofs.Tryz.ntmps56
    go_wp2_with (go_at_call 85; refine (hc _).mono ?_; rintro e w1 ⟨rfl, hb1⟩)
    go_ret
    exact ⟨rfl, hb1⟩
  · rw [kindB_size h]
    go_enter Go.Proofs.Tryz.func56, Go.Proofs.Tryz.ntmps56
    go_wp2
    all_goals (go_ret; exact ⟨rfl, Below.refl _ _⟩)
theorem textIsKind {s : ByteArray} (hs : s.size ≤ 281474976710656) {w : World} : Go.Rx.Spec Go.Proofs.Tryz.prog 56 #[.string s] w [] (fun u _ => u = .bool (kindB s)) :=
  spec_of_below ⟨Go.Proofs.Tryz.f56, Go.Proofs.Tryz.func56, by kernel_rfl, rfl⟩ (isKindC hs w)
end Go.Proofs.YthpejgmkiomfhaaGreatDoor
/- Tags and refusals of the program. -/
namespace Go.Rx
open Go Go.RowKit
set_option linter.unusedVariables false
def idxT (p : Tg → Bool) (xs : List Tg) : Int := match xs.findIdx? p with | some i => i | none => -1
theorem idxT_here (p : Tg → Bool) (xs : List Tg) (i : Nat) (hi : i < xs.length) (hlt : ∀ j, j < i → p xs[j]! = false) (hp : p xs[i]! = true) : idxT p xs = i := by
  unfold idxT
  have : xs.findIdx? p = some i := by
    rw [List.findIdx?_eq_some_iff_getElem]
    refine ⟨hi, by rw [getElem!_pos xs i hi] at hp; exact hp, fun j hj => ?_⟩
    have := hlt j hj
    rw [getElem!_pos xs j (by omega)] at this
    simpa using this
  rw [this]
theorem idxT_none (p : Tg → Bool) (xs : List Tg) (hlt : ∀ j, j < xs.length → p xs[j]! = false) : idxT p xs = -1 := by
  unfold idxT
  have : xs.findIdx? p = none := by
    rw [List.findIdx?_eq_none_iff]
    intro x hx
    obtain ⟨j, hj, rfl⟩ := List.getElem_of_mem hx
    have := hlt j hj
    rwa [getElem!_pos xs j hj] at this
  rw [this]
theorem indexFuncT {w : World} {v : Value} {xs : List Tg} {f : FuncId} {first cap : List Value} {p : Tg → Bool} (hr : RSl Tg.enc 2 w [] v xs)
    (hp : ∀ x w', Upd w w' [] [] → Spec Go.Proofs.Tryz.prog f (first ++ [Value.agg x.enc.toArray] ++ cap).toArray w' [] (fun u _ => u = Value.bool (p x))) :
    Spec Go.Proofs.Tryz.prog 103 #[v, .func (.func f) first.toArray cap.toArray] w [] (fun u _ => u = .int .i64 (idxT p xs)) := by
  have hsm := hr.small
  refine Spec.enter (fn := Go.Proofs.Tryz.f103) (n := 19) [v, .func (.func f) first.toArray cap.toArray] Go.Proofs.Tryz.func103 (by kernel_rfl) rfl Go.Proofs.Tryz.ntmps103 Go.Proofs.Tryz.results103 rfl (Own.nil _) ?_
  refine JC.rs ?_
  refine Seq.p rfl Ev.assign ?_
  refine Seq.nil ?_
  refine JC.seq ?_
  refine JC.rs ?_
  refine Seq.p rfl Ev.move ?_
  refine Seq.p rfl (Ev.lenSl sl.sl_api_Tag (hr := hr.r)) ?_
  refine Seq.p rfl Ev.move ?_
  refine Seq.nil ?_
  refine JC.blk ?_
  refine JC.loop (α := Nat) (I := fun i e1 H1 => Has [4, 5, 8, 9, 10, 11, 12, 13, 14, 15, 16, 17, 18] [(8, .int .i64 (i : Int))] _ e1 ∧ H1 = [] ∧ i ≤ xs.length ∧ ∀ j, j < i → p xs[j]! = false) (μ := fun i => xs.length - i) 0 ⟨Has.mk Off.refl (allLook_cons (by repeat (first | exact Look.here | apply Look.there (hne := rfl) | exact Look.const | apply Look.mix rfl | exact Look.arg0 | apply Look.args | exact Look.func)) allLook_nil), rfl, by omega, by omega⟩ ?_
  rintro i _ _ ⟨⟨u, rfl⟩, rfl, hi, hlt⟩; dsimp only [setL]
  refine JC.rs ?_
  refine Seq.p rfl Ev.lt ?_
  refine Seq.nil ?_
  refine JC.seq ?_
  refine JC.c (ht := fun hc => ?_) (hf := fun hc => ?_)
  · -- t9
    refine JC.skip ?_
    refine JC.seq ?_
    refine JC.blk ?_
    refine JC.rs ?_
    refine Seq.p rfl Ev.move ?_
    refine Seq.p rfl Ev.assign ?_
    refine Seq.nil ?_
    refine JC.rs ?_
    refine Seq.p rfl Ev.move ?_
    refine Seq.p rfl Ev.move ?_
    refine Seq.p rfl Ev.move ?_
    refine Seq.p rfl (Ev.iaN sl.sl_api_Tag (hr := hr.r)) ?_
    refine Seq.p rfl (Ev.ldEA ag.api_Tag (hr := hr.r)) ?_
    refine Seq.callvP rfl rfl (fun w hw => hp _ w hw) ?_
    refine Seq.nil ?_
    refine JC.cb (ht := fun hc => ?_) (hf := fun hc => ?_)
    · -- t16
      refine JC.rs ?_
      refine Seq.p rfl Ev.move ?_
      refine Seq.p rfl Ev.assign ?_
      refine Seq.nil ?_
      refine JC.ret ?_
      show retQ _ _ _ _ _ .ret _ _; refine ret1 (hp := Part.nil _) (hpost := ?_)
      rw [idxT_here p xs i (by omega) hlt hc]
    · -- not t16
      refine JC.skip ?_
      refine JC.reg ?_
      refine Seq.p rfl (by first | exact Ev.inc | exact Ev.add) ?_
      refine Seq.p rfl Ev.move ?_
      refine Seq.nil ?_
      refine ⟨i + 1, _, Part.refl _, ⟨Has.mk (by repeat (first | refine Off.upd ?_ rfl | exact Off.mix | refine Off.mix2 ?_ rfl | exact Off.refl)) (allLook_cons (by repeat (first | exact Look.here | apply Look.there (hne := rfl) | exact Look.const | apply Look.mix rfl | exact Look.arg0 | apply Look.args | exact Look.func)) allLook_nil), rfl, by omega, ?_⟩, by omega⟩
      intro j hj
      by_cases h : j = i
      · subst h; exact hc
      · exact hlt j (by omega)
  · -- not t9
    refine JC.exit ?_ -- 0
    refine JC.rs ?_
    refine Seq.p rfl Ev.assign ?_
    refine Seq.nil ?_
    refine JC.ret ?_
    show retQ _ _ _ _ _ .ret _ _; refine ret1 (hp := Part.nil _) (hpost := ?_)
    rw [idxT_none p xs (fun j hj => hlt j (by omega))]
theorem idxT_any (p : Tg → Bool) (xs : List Tg) : decide (0 ≤ idxT p xs) = xs.any p := by
  unfold idxT
  cases h : xs.findIdx? p with
  | some i =>
    have h2 : xs.any p = true := by
      obtain ⟨hi, hp, _⟩ := List.findIdx?_eq_some_iff_getElem.1 h
      exact List.any_eq_true.2 ⟨xs[i], List.getElem_mem _, hp⟩
    rw [h2]
    exact decide_eq_true (by show (0 : Int) ≤ (i : Int); omega)
  | none =>
    have h2 : xs.any p = false := by
      rw [List.any_eq_false]
      intro x hx
      have := List.findIdx?_eq_none_iff.1 h x hx
      simpa using this
    rw [h2]
    rfl
set_option maxRecDepth 100000 in
theorem containsFuncT {w : World} {v : Value} {xs : List Tg} {f : FuncId} {first cap : List Value} {p : Tg → Bool} (hr : RSl Tg.enc 2 w [] v xs)
    (hp : ∀ x w', Upd w w' [] [] → Spec Go.Proofs.Tryz.prog f (first ++ [Value.agg x.enc.toArray] ++ cap).toArray w' [] (fun u _ => u = Value.bool (p x))) :
    Spec Go.Proofs.Tryz.prog 88 #[v, .func (.func f) first.toArray cap.toArray] w [] (fun u _ => u = .bool (xs.any p)) := by
  refine Spec.enter (fn := Go.Proofs.Tryz.f88) (n := 9) [v, .func (.func f) first.toArray cap.toArray] Go.Proofs.Tryz.func88 (by kernel_rfl) rfl Go.Proofs.Tryz.ntmps88 Go.Proofs.Tryz.results88 rfl (Own.nil _) ?_
  refine JC.rs ?_
  refine Seq.p rfl Ev.assign ?_
  refine Seq.nil ?_
  refine JC.rs ?_
  refine Seq.p rfl Ev.move ?_
  refine Seq.p rfl Ev.move ?_
  refine Seq.callP rfl (fun w hw => indexFuncT (hr.up hw) (fun x w' hw' => hp x w' ((Upd.grow hw hw').part (Part.nil _)))) ?_
  refine Seq.p rfl Ev.ge ?_
  refine Seq.p rfl Ev.assign ?_
  refine Seq.nil ?_
  refine JC.ret ?_
  show retQ _ _ _ _ _ _ _ _
  refine ret1 (hp := Part.nil _) (hpost := ?_)
  rw [← idxT_any]
theorem refusedClosure {w : World} {x : Tg} {b : Nat} {id : Int} (hc : Cell w [] ⟨b, 0, none⟩ (.int .i64 id)) :
    Spec Go.Proofs.Tryz.prog 89 #[.agg x.enc.toArray, .pointer (some ⟨b, 0, none⟩)] w [] (fun u _ => u = .bool (decide (x.tag = id))) := by
  refine Spec.enter (fn := Go.Proofs.Tryz.f89) (n := 9) [.agg x.enc.toArray, .pointer (some ⟨b, 0, none⟩)] Go.Proofs.Tryz.func89 (by kernel_rfl) rfl Go.Proofs.Tryz.ntmps89 Go.Proofs.Tryz.results89 rfl (Own.nil _) ?_
  refine JC.rs ?_
  refine Seq.box (cs := [_, _]) (k := ?_); intro b2
  refine Seq.p rfl Ev.assign ?_
  refine Seq.nil ?_
  refine JC.rs ?_
  refine Seq.p rfl (Ev.faB fd.api_Tag_0) ?_
  refine Seq.p rfl (Ev.ldB sc.int) ?_
  refine Seq.p rfl (Ev.faB fd.api_Tag_0) ?_
  refine Seq.p rfl (Ev.ldS sc.int (Cells.cell hc)) ?_
  refine Seq.p rfl Ev.eq ?_
  refine Seq.p rfl Ev.assign ?_
  refine Seq.nil ?_
  refine JC.ret ?_
  show retQ _ _ _ _ _ _ _ _
  refine ret1 (hp := Part.nil _) (hpost := ?_)
  rfl
end Go.Rx
namespace Go.Proofs.YthpejgmkiomfhaaGreatDoor
open Go Go.RowKit Go.Lib Go.Rx
set_option linter.unusedVariables false
theorem cells4 (w : World) (T : TypeId) : ∀ j, j < [8, 9, 10, (35 : Int)].length → (w.alloc (.cells #[.int .i64 8, .int .i64 9, .int .i64 10, .int .i64 35] T)).cell? ⟨w.heap.size, 0 + j, none⟩ = some (.int .i64 ([8, 9, 10, (35 : Int)].getD j 0)) := by
  intro j hj
  rw [World.cell?_alloc_new]
  match j, hj with
  | 0, _ => rfl
  | 1, _ => rfl
  | 2, _ => rfl
  | 3, _ => rfl
theorem tag_mem {n : Int} (h : 1 ≤ n ∧ n ≤ 9999) : (!([8, 9, 10, (35 : Int)].take 4).contains n) = tagB n := by
  unfold tagB
  rw [decide_eq_true h.1, decide_eq_true h.2]
  rw [Bool.eq_iff_iff]
  simp
  omega
theorem tagB_out {n : Int} (h : ¬ (1 ≤ n ∧ n ≤ 9999)) : tagB n = false := by
  unfold tagB
  have e : (decide (1 ≤ n) && decide (n ≤ 9999)) = false := by
    simp only [Bool.and_eq_false_iff, decide_eq_false_iff_not]
    omega
  rw [e]
  rfl
set_option maxHeartbeats 1000000 in
set_option maxRecDepth 100000 in
theorem isTagC (n : Int) (w : World) : Calls Go.Proofs.Tryz.prog 87 #[.int .i64 n] w fun e w' => e = .returned (.bool (tagB n)) ∧ Below w.heap.size w w' := by
  by_cases h : 1 ≤ n ∧ n ≤ 9999
  · have hk := tag_mem h
    obtain ⟨b, hb⟩ : ∃ b, ([8, 9, 10, (35 : Int)].take 4).contains n = b := ⟨_, rfl⟩
    have hc := fun T => Go.Proofs.Tryz.slices_Contains_int w.heap.size 0 4 4 [8, 9, 10, 35] n (w.alloc (.cells #[.int .i64 8, .int .i64 9, .int .i64 10, .int .i64 35] T)) (by decide) (by decide) (cells4 w T)
    rw [hb] at hk
    simp only [hb] at hc
    go_enter Go.Proofs.Tryz.func87, Go.Proofs.Tryz.ntmps87
    go_wp2_with (go_at_call 102; refine (hc _).mono ?_; rintro e w1 ⟨rfl, rfl⟩)
    go_ret
    exact ⟨rfl, (Below.refl _ _).alloc (Nat.le_refl _) _⟩
  · rw [tagB_out h]
    go_enter Go.Proofs.Tryz.func87, Go.Proofs.Tryz.ntmps87
    go_wp2
    all_goals (go_ret; exact ⟨rfl, Below.refl _ _⟩)
theorem textIsTag {n : Int} {w : World} : Go.Rx.Spec Go.Proofs.Tryz.prog 87 #[.int .i64 n] w [] (fun u _ => u = .bool (tagB n)) :=
  spec_of_below ⟨Go.Proofs.Tryz.f87, Go.Proofs.Tryz.func87, by kernel_rfl, rfl⟩ (isTagC n w)
end Go.Proofs.YthpejgmkiomfhaaGreatDoor
namespace Go.Rx
open Go Go.RowKit Go.Proofs.YthpejgmkiomfhaaGreatDoor
set_option linter.unusedVariables false
def refusedF (xs : List Tg) (t : Tg) : Int := if (!tagB t.tag || thereB xs t.tag) = true then 30 else if (!valueB t.value) = true then 31 else 0
set_option maxHeartbeats 1000000 in
set_option maxRecDepth 100000 in
theorem textRefused {w : World} {v : Value} {xs : List Tg} {t : Tg} (hr : RSl Tg.enc 2 w [] v xs) (hsz : t.value.size ≤ 281474976710656) :
    Spec Go.Proofs.Tryz.prog 58 #[v, .agg t.enc.toArray] w [] (fun u _ => u = .int .i64 (refusedF xs t)) := by
  refine Spec.enter (fn := Go.Proofs.Tryz.f58) (n := 20) [v, .agg t.enc.toArray] Go.Proofs.Tryz.func58 (by kernel_rfl) rfl Go.Proofs.Tryz.ntmps58 Go.Proofs.Tryz.results58 rfl (Own.nil _) ?_
  refine JC.rs ?_
  refine Seq.box (cs := [_, _]) (k := ?_); intro b3
  refine Seq.p rfl Ev.assign ?_
  refine Seq.nil ?_
  refine JC.seq ?_
  refine JC.blk ?_
  refine JC.rs ?_
  refine Seq.p rfl (Ev.faB fd.api_Tag_0) ?_
  refine Seq.p rfl (Ev.ldB sc.int) ?_
  refine Seq.callP rfl (fun w hw => textIsTag) ?_
  refine Seq.p rfl Ev.not ?_
  refine Seq.p rfl Ev.move ?_
  refine Seq.orG (D := [10, 11, 12, 13, 14]) (d := 10) (t := 14) (k := 4) (hn := fun h10 => ?_) (hx := ?_)
  · repeat (first | refine Seq.gn rfl rfl rfl rfl ?_ | refine Seq.gu rfl rfl rfl ?_)
    refine Seq.p rfl Ev.pickT ?_
    exact Seq.nil ⟨rfl, (by repeat (first | with_reducible exact Off.refl | refine Off.upd ?_ rfl | exact Off.mix | refine Off.mix2 ?_ rfl)), Look.here⟩
  apply Exists.intro
  refine ⟨fun h10 => ?_, fun u14 => ?_⟩
  · try simp only [decide_eq_true_eq, decide_eq_false_iff_not, Bool.and_eq_true, Bool.or_eq_true, Bool.not_eq_true', Bool.not_eq_false', Bool.or_eq_false_iff, Bool.and_eq_false_imp] at h10
    refine Seq.gy rfl rfl rfl ?_
    refine Seq.p rfl Ev.move ?_
    refine Seq.gy rfl rfl rfl ?_
    refine Seq.p rfl Ev.func ?_
    refine Seq.gy rfl rfl rfl ?_
    refine Seq.callP rfl (fun w' hw => containsFuncT (first := []) (cap := [.pointer (some ⟨b3, 0, none⟩)]) (p := fun o => decide (o.tag = t.tag)) (hr.up hw) (fun x w'' h => refusedClosure ((box_cell hw At.z rfl).at_ h))) ?_
    refine Seq.p rfl Ev.pickF ?_
    exact Seq.nil ⟨rfl, (by repeat (first | with_reducible exact Off.refl | refine Off.upd ?_ rfl | exact Off.mix | refine Off.mix2 ?_ rfl)), Look.here⟩
  refine Seq.p rfl Ev.assign ?_
  refine Seq.nil ?_
  first | refine JC.c (ht := fun c5 => ?_) (hf := fun c5 => ?_) | refine JC.cb (ht := fun c5 => ?_) (hf := fun c5 => ?_)
  · -- then_t5
    refine JC.rs ?_
    refine Seq.p rfl Ev.assign ?_
    refine Seq.nil ?_
    refine JC.ret ?_
    show retQ _ _ _ _ _ _ _ _
    refine ret1 (hp := Part.nil _) (hpost := ?_)
    have h : (!tagB t.tag || thereB xs t.tag) = true := c5
    rw [refusedF, if_pos h]
  · -- else_t5
    refine JC.rs ?_
    refine Seq.p rfl (Ev.faB fd.api_Tag_1) ?_
    refine Seq.p rfl (Ev.ldB sc.string) ?_
    refine Seq.callP rfl (fun w hw => textIsValue hsz) ?_
    refine Seq.p rfl Ev.not ?_
    refine Seq.p rfl Ev.assign ?_
    refine Seq.nil ?_
    first | refine JC.c (ht := fun c15 => ?_) (hf := fun c15 => ?_) | refine JC.cb (ht := fun c15 => ?_) (hf := fun c15 => ?_)
    · -- then_t15
      refine JC.rs ?_
      refine Seq.p rfl Ev.assign ?_
      refine Seq.nil ?_
      refine JC.ret ?_
      show retQ _ _ _ _ _ _ _ _
      refine ret1 (hp := Part.nil _) (hpost := ?_)
      have h : (!tagB t.tag || thereB xs t.tag) = false := c5
      rw [refusedF, h, if_neg (by decide)]
      first | rw [if_pos c15] | (simp at c15; simp [c15])
    · -- else_t15
      refine JC.skip ?_
      refine JC.rs ?_
      refine Seq.p rfl Ev.assign ?_
      refine Seq.nil ?_
      refine JC.ret ?_
      show retQ _ _ _ _ _ _ _ _
      refine ret1 (hp := Part.nil _) (hpost := ?_)
      have h : (!tagB t.tag || thereB xs t.tag) = false := c5
      rw [refusedF, h, if_neg (by decide)]
      first | rw [if_neg c15] | (simp at c15; simp [c15])
end Go.Rx
/- The last field's digits, by the program and by the document; what trails. -/
namespace Go.Rx
open Go Go.RowKit Go.Lib Go.Proofs.YthpejgmkiomfhaaGreatDoor
set_option linter.unusedVariables false
set_option linter.unusedSimpArgs false
def threeL (n : Int) : List Int := [48 + n / 100, 48 + n / 10 % 10, 48 + n % 10]
def lastL (l : List Int) : List Int := [49, 48, 61] ++ threeL (sumB l) ++ [1]
theorem dec_last {m : Nat} (h : m ≤ 255) : decDigits (1000 + m) = [49, UInt8.ofNat (48 + m / 100), UInt8.ofNat (48 + m / 10 % 10), UInt8.ofNat (48 + m % 10)] := by
  have h1 : decDigits ((1000 + m) / 10 / 10) = [UInt8.ofNat (48 + (1000 + m) / 10 / 10 / 10), UInt8.ofNat (48 + (1000 + m) / 10 / 10 % 10)] := decDigits_two (by omega) (by omega)
  have h2 : decDigits ((1000 + m) / 10) = decDigits ((1000 + m) / 10 / 10) ++ [UInt8.ofNat (48 + (1000 + m) / 10 % 10)] := by rw [decDigits, dif_neg (by omega)]
  have h3 : decDigits (1000 + m) = decDigits ((1000 + m) / 10) ++ [UInt8.ofNat (48 + (1000 + m) % 10)] := by rw [decDigits, dif_neg (by omega)]
  rw [h3, h2, h1]
  have e1 : 48 + (1000 + m) / 10 / 10 / 10 = 49 := by omega
  have e2 : (1000 + m) / 10 / 10 % 10 = m / 100 := by omega
  have e3 : (1000 + m) / 10 % 10 = m / 10 % 10 := by omega
  have e4 : (1000 + m) % 10 = m % 10 := by omega
  rw [e1, e2, e3, e4]
  rfl
theorem itoa_last {n : Int} (h : 0 ≤ n ∧ n ≤ 255) : itoa (1000 + n) = (49 :: threeL n).map fun n => UInt8.ofNat n.toNat := by
  obtain ⟨m, rfl⟩ : ∃ m : Nat, n = m := ⟨n.toNat, by omega⟩
  have e : (1000 + (m : Int)) = ((1000 + m : Nat) : Int) := by omega
  rw [e, itoa_nonneg, dec_last (by omega)]
  unfold threeL
  have e1 : (48 + (m : Int) / 100).toNat = 48 + m / 100 := by omega
  have e2 : (48 + (m : Int) / 10 % 10).toNat = 48 + m / 10 % 10 := by omega
  have e3 : (48 + (m : Int) % 10).toNat = 48 + m % 10 := by omega
  simp only [List.map_cons, List.map_nil, e1, e2, e3]
  rfl
theorem strOf_size (l : List Int) : (strOf l).size = l.length := by
  have h3 : (strOf l).size = (strOf l).data.toList.length := by simp
  rw [h3, strOf_toList, List.length_map]
theorem ba_ext {a b : ByteArray} (h : a.data.toList = b.data.toList) : a = b := by
  apply ByteArray.ext
  exact Array.ext' h
theorem strOf_mk (l : List Int) : (⟨(l.map fun n => UInt8.ofNat n.toNat).toArray⟩ : ByteArray) = strOf l := ba_ext (by rw [strOf_toList])
theorem strOf_app (a b : List Int) : strOf (a ++ b) = strOf a ++ strOf b := ba_ext (by rw [strOf_toList, List.map_append]; simp [strOf_toList])
theorem strOf_cut (l : List Int) (i j : Nat) : (strOf l).extract i j = strOf ((l.take j).drop i) := ba_ext (by
  rw [strOf_toList, ByteArray.data_extract, Array.toList_extract, List.extract_eq_take_drop, strOf_toList, List.map_drop, List.map_take, List.drop_take])
theorem textItoa {w : World} {n : Int} (h0 : -9223372036854775808 ≤ n) (h1 : n ≤ 9223372036854775807) (hL : LaidT w) : Go.Rx.Spec Go.Proofs.Tryz.prog 60 #[.int .i64 n] w [] (fun u _ => u = .string ⟨(itoa n).toArray⟩) :=
  spec_of_below ⟨Go.Proofs.Tryz.f60, Go.Proofs.Tryz.func60, by kernel_rfl, rfl⟩ ((Go.Proofs.Tryz.strconv_Itoa n h0 h1 w hL.tab).mono (by
    rintro e w' ⟨rfl, k, os, rfl⟩
    exact ⟨rfl, grow_below w k os⟩))
set_option maxHeartbeats 1000000 in
set_option maxRecDepth 100000 in
theorem textLast {w : World} {v : Value} {l : List Int} (hr : RSl byteEnc 1 w [] v l) (hB : isBytes l) (hL : LaidT w) : Spec Go.Proofs.Tryz.prog 61 #[v] w [] (fun u _ => u = .string (strOf (lastL l))) := by
  have hs := sumB_range l
  have hi : (⟨(itoa (1000 + sumB l)).toArray⟩ : ByteArray) = strOf (49 :: threeL (sumB l)) := by rw [itoa_last hs, strOf_mk]
  refine Spec.enter (fn := Go.Proofs.Tryz.f61) (n := 12) [v] Go.Proofs.Tryz.func61 (by kernel_rfl) rfl Go.Proofs.Tryz.ntmps61 Go.Proofs.Tryz.results61 rfl (Own.nil _) ?_
  refine JC.rs ?_
  refine Seq.p rfl Ev.assign ?_
  refine Seq.nil ?_
  refine JC.rs ?_
  refine Seq.p rfl Ev.move ?_
  refine Seq.callP rfl (fun w hw => textSum (hr.up hw) hB) ?_
  refine Seq.p rfl Ev.add ?_
  refine Seq.callP rfl (fun w hw => hi ▸ textItoa (by omega) (by omega) (hL.upd hw)) ?_
  refine Seq.p rfl Ev.assign ?_
  refine Seq.nil ?_
  refine JC.rs ?_
  refine Seq.p rfl Ev.move ?_
  refine Seq.p rfl (Ev.cutStr (s := strOf (49 :: threeL (sumB l))) (l := 1) (h := 4) st.string (hlo := ⟨_, (by repeat (first | exact Look.here | apply Look.there (hne := rfl) | exact Look.const | apply Look.mix rfl | exact Look.arg0 | apply Look.args | exact Look.func))⟩) (hhi := by rw [strOf_size]; rfl) (h2 := by rw [strOf_size]; exact Nat.le_refl _)) ?_
  rw [strOf_cut, show ((49 :: threeL (sumB l)).take 4).drop 1 = threeL (sumB l) from rfl]
  refine Seq.p rfl (Ev.addStr (h := by rw [strOf_size]; show 3 + 3 ≤ _; decide)) ?_
  rw [show (⟨#[49, 48, 61]⟩ : ByteArray) = strOf [49, 48, 61] from rfl, ← strOf_app]
  refine Seq.p rfl (Ev.addStr (h := by rw [strOf_size]; show 6 + 1 ≤ _; decide)) ?_
  rw [show (⟨#[1]⟩ : ByteArray) = strOf [1] from rfl, ← strOf_app]
  refine Seq.p rfl Ev.assign ?_
  refine Seq.nil ?_
  refine JC.ret ?_
  show retQ _ _ _ _ _ _ _ _
  refine ret1 (hp := Part.nil _) (hpost := ?_)
  rfl
end Go.Rx
/- The beginning of a line: what it is, and the document's head. -/
namespace Go.Rx
open Go Go.RowKit Go.Lib Go.Proofs.YthpejgmkiomfhaaGreatDoor
set_option linter.unusedVariables false
set_option linter.unusedSimpArgs false
def beginL : List Int := [56, 61, 66, 82, 83, 46, 49, 1, 57, 61]
abbrev beginS : ByteArray := ⟨#[56, 61, 66, 82, 83, 46, 49, 1, 57, 61]⟩
theorem begin_at : ∀ i : Fin 10, bAt beginS i.val = beginL[i.val]! := by decide
theorem begin_get {i : Nat} (h : i < 10) : bAt beginS (Int.toNat (i : Int)) = beginL[i]! := begin_at ⟨i, h⟩
def digit (c : Int) : Bool := decide (48 ≤ c) && decide (c ≤ 57)
def preF (l : List Int) : Nat → Nat → Nat
  | 0, i => i
  | k + 1, i => if i < l.length ∧ l[i]! = beginL[i]! then preF l k (i + 1) else i
def dgF (l : List Int) : Nat → Nat → Nat
  | 0, n => n
  | k + 1, n => if 10 + n < l.length ∧ digit l[10 + n]! = true then dgF l k (n + 1) else n
inductive HeadA
  | bad (at_ why : Int)
  | ok (from_ long : Nat)
def headF (l : List Int) : HeadA :=
  if preF l 10 0 < 10 then (if preF l 10 0 = l.length then .bad (preF l 10 0 : Nat) 20 else .bad (preF l 10 0 : Nat) 3)
  else if 10 + dgF l 5 0 = l.length then .bad l.length 20
  else match natF (strOf ((l.drop 10).take (dgF l 5 0))) with
    | some k => if dgF l 5 0 = 5 ∨ l[10 + dgF l 5 0]! ≠ 1 then .bad 10 3 else .ok (11 + dgF l 5 0) k
    | none => .bad 10 3
def badV (a c : Int) : Value := .agg #[.string ⟨#[]⟩, .slice none 0 0, .int .i64 a, .int .i64 c, .bool false, .int .i64 0]
def headV : HeadA → Value
  | .bad a c => .tuple #[.int .i64 0, .int .i64 0, badV a c]
  | .ok f k => .tuple #[.int .i64 (f : Int), .int .i64 (k : Int), badV 0 0]
theorem dgF_le (l : List Int) : ∀ (k n : Nat), dgF l k n ≤ n + k
  | 0, n => Nat.le_refl _
  | k + 1, n => by
    unfold dgF
    split
    · have := dgF_le l k (n + 1); omega
    · omega
theorem preF_le (l : List Int) : ∀ (k i : Nat), preF l k i ≤ i + k
  | 0, n => Nat.le_refl _
  | k + 1, n => by
    unfold preF
    split
    · have := preF_le l k (n + 1); omega
    · omega
theorem dgF_len (l : List Int) : ∀ (k n : Nat), 10 + n ≤ l.length → 10 + dgF l k n ≤ l.length
  | 0, n, h => h
  | k + 1, n, h => by
    unfold dgF
    split
    · exact dgF_len l k (n + 1) (by omega)
    · omega
theorem natRest_lt : ∀ (l : List UInt8) (n k : Nat), natRest l n = some k → k < (n + 1) * 10 ^ l.length
  | [], n, k, h => by
    simp only [natRest, Option.some.injEq] at h
    simp
    omega
  | c :: r, n, k, h => by
    simp only [natRest] at h
    split at h
    · cases h
    · split at h
      · cases h
      · have h1 := natRest_lt r _ k h
        rw [List.length_cons, Nat.pow_succ]
        have h2 : (n * 10 + (c.toNat - 48) + 1) ≤ (n + 1) * 10 := by omega
        have h3 := Nat.mul_le_mul_right (10 ^ r.length) h2
        have h4 : (n + 1) * 10 * 10 ^ r.length = (n + 1) * (10 ^ r.length * 10) := by rw [Nat.mul_assoc, Nat.mul_comm 10]
        omega
theorem natF_lt {s : ByteArray} {k : Nat} (h : natF s = some k) : k < 10 ^ s.size := by
  unfold natF at h
  split at h
  · cases h
  · have := natRest_lt _ _ _ h
    simpa using this
end Go.Rx
/- The law bourselaw03.TextDecimals gives true. -/
namespace Go.Rx
open Go Go.RowKit Go.Lib Go.Proofs.YthpejgmkiomfhaaGreatDoor
set_option linter.unusedVariables false
theorem parse_append {M : Nat} {c : UInt8} : ∀ (l : List UInt8) (acc a : Nat), parseUintM M acc l = .ok a → parseUintM M acc (l ++ [c]) = parseUintM M a [c]
  | [], acc, a, h => by
    simp only [parseUintM] at h
    cases h
    rfl
  | x :: r, acc, a, h => by
    simp only [parseUintM, List.cons_append] at h ⊢
    split at h
    · split at h
      · cases h
      · split at h
        · cases h
        · rename_i h1 h2 h3
          rw [if_pos h1, if_neg h2, if_neg h3, parse_append r _ a h]
          rfl
    · cases h
theorem parse_dec : ∀ (u : Nat), u ≤ 18446744073709551615 → parseUintM 18446744073709551615 0 (decDigits u) = .ok u := by
  intro u
  induction u using Nat.strongRecOn with
  | _ u ih =>
    intro hu
    have hone : ∀ (a d : Nat), d ≤ 9 → a * 10 + d ≤ 18446744073709551615 → parseUintM 18446744073709551615 a [UInt8.ofNat (48 + d)] = .ok (a * 10 + d) := by
      intro a d hd ha
      have hc : (UInt8.ofNat (48 + d)).toNat = 48 + d := by rw [UInt8.toNat_ofNat']; omega
      simp only [parseUintM, hc]
      rw [if_pos (by omega), if_neg (by omega), if_neg (by omega)]
      congr 1
      omega
    by_cases h : u < 10
    · rw [decDigits_one h]
      have := hone 0 u (by omega) (by omega)
      simpa using this
    · rw [decDigits, dif_neg h, parse_append _ 0 (u / 10) (ih (u / 10) (by omega) (by omega)), hone (u / 10) (u % 10) (by omega) (by omega)]
      congr 1
      omega
def decS (n : Nat) : ByteArray := ⟨(decDigits n).toArray⟩
theorem decS_list (n : Nat) : (decS n).data.toList = decDigits n := by simp [decS]
theorem numOf_dec {n : Nat} (h : n ≤ 18446744073709551615) : numOf (decS n) = some n := by
  have e64 : (2 : Nat) ^ 64 - 1 = 18446744073709551615 := by decide
  unfold numOf
  rw [decS_list]
  have hne : decDigits n ≠ [] := by
    intro h0
    have := decDigits_length n
    have h1 := nDigits_pos n
    rw [h0] at this
    simp at this
    omega
  unfold parseUintB
  rw [if_neg hne, e64, parse_dec n h]
  simp [okOf]
theorem numOf_some {s : ByteArray} {k : Nat} (h : numOf s = some k) : s = decS k ∧ k ≤ 18446744073709551615 := by
  have e64 : (2 : Nat) ^ 64 - 1 = 18446744073709551615 := by decide
  unfold numOf at h
  split at h
  · rename_i u hu
    split at h
    · rename_i hd
      cases h
      refine ⟨?_, ?_⟩
      · unfold decS
        rw [hd]
      · cases hq : parseUintB 64 s.data.toList with
        | ok u' =>
          rw [hq] at hu
          simp only [okOf, Option.some.injEq] at hu
          have := parseUintB_le hq
          omega
        | _ => rw [hq] at hu; cases hu
    · cases h
  · cases h
theorem decS_size (n : Nat) : (decS n).size = (decDigits n).length := by
  have : (decS n).size = (decS n).data.toList.length := by simp
  rw [this, decS_list]
theorem decS_facts {n : Nat} (h : n ≤ 18446744073709551615) : 1 ≤ (decS n).size ∧ (decS n).size ≤ 20 ∧ (1 < (decS n).size → bAt (decS n) (Int.toNat 0) ≠ 48) := by
  rw [decS_size]
  refine ⟨by rw [decDigits_length]; exact nDigits_pos n, dec_len (by omega), fun hl => ?_⟩
  have h1 : 1 ≤ n := by
    rcases Nat.eq_zero_or_pos n with h0 | h0
    · rw [h0, decDigits_one (by omega)] at hl
      simp at hl
    · exact h0
  obtain ⟨c, r, he, hc⟩ := dec_head n h1
  have hb : bAt (decS n) (Int.toNat 0) = (c.toNat : Int) := by
    unfold bAt
    rw [decS_list, he]
    rfl
  rw [hb]
  omega
end Go.Rx
/- Atoi and Itoa read and write what Natural reads; errors compared with nil. -/
namespace Go.Rx
open Go Go.RowKit Go.Lib Go.Proofs.YthpejgmkiomfhaaGreatDoor
set_option linter.unusedVariables false
set_option linter.unusedSimpArgs false
def ErrV (er : Value) (b : Bool) : Prop := (b = false ∧ er = .nilIface) ∨ (b = true ∧ ∃ t p, er = .iface t p)
section
variable {P : Program} {w0 : World} {Cs H : List Chunk} {e : Env} {ty tx ty' : TypeId} {x : Operand}
theorem Ev.neErr {er : Value} {b : Bool} (h : ErrV er b) (ht : P.underlying tx = some (.interface (P.methodsAt tx))) (hx : Look e x er := by repeat (first | exact Look.here | apply Look.there (hne := rfl) | exact Look.const | apply Look.mix rfl | exact Look.arg0 | apply Look.args | exact Look.func)) : Ev P w0 Cs H e (.binOp .neq tx x (.const .nilIface) ty') ty (.bool b) := by
  intro w _ d pos af g
  replace hx := hx.eq
  rcases h with ⟨rfl, rfl⟩ | ⟨rfl, t, p, rfl⟩
  · have e1 : ev e (.const .nilIface) = .nilIface := rfl
    have e2 : eqGuard .neq tx x (.const .nilIface) .nilIface .nilIface = pure () := by cases x <;> rfl
    have e3 : (binOp .neq tx .nilIface .nilIface).run P w = .ok (.bool false) w := run_neq_nil_nil (h := ht) ..
    simp [execOp, hx, e1, e2, e3]
  · have e1 : ev e (.const .nilIface) = .nilIface := rfl
    have e2 : eqGuard .neq tx x (.const .nilIface) (.iface t p) .nilIface = pure () := rfl
    have e3 : (binOp .neq tx (.iface t p) .nilIface).run P w = .ok (.bool true) w := run_neq_held_nil (h := ht) ..
    simp [execOp, hx, e1, e2, e3]
end
def atoiOk (s : ByteArray) : Option Int := match atoiAll s.data.toList with | .ok n => some n | _ => none
theorem textAtoi {w : World} {s : ByteArray} (hs : s.size ≤ 281474976710656) (hL : Laid w) : Spec Go.Proofs.Tryz.prog 96 #[.string s] w [] (fun u H' => ∃ n er b, u = .tuple #[.int .i64 n, er] ∧ H' = [] ∧ ErrV er b ∧ (atoiOk s = if b = true then none else some n) ∧ -9223372036854775808 ≤ n ∧ n ≤ 9223372036854775807) := by
  obtain ⟨⟨t1, p1, h1⟩, t2, p2, h2⟩ := And.intro hL.syn hL.rng
  refine ⟨⟨Go.Proofs.Tryz.f96, Go.Proofs.Tryz.func96, by kernel_rfl, rfl⟩, ?_⟩
  cases hq : atoiAll s.data.toList with
  | ok n =>
    refine (Go.Proofs.Tryz.strconv_Atoi_ok s (by omega) n hq w).mono ?_
    rintro e w' ⟨rfl, hw⟩
    have hb : Below w.heap.size w w' := by
      rcases hw with rfl | ⟨t, rfl⟩
      · exact Below.refl _ _
      · exact Lib.bytesWorld_below _ _ _
    exact ⟨_, [], rfl, upd_of_below hb, n, .nilIface, false, rfl, rfl, .inl ⟨rfl, rfl⟩, by unfold atoiOk; rw [hq]; rfl, atoiAll_bounds hq⟩
  | range =>
    refine (Go.Proofs.Tryz.strconv_Atoi_range_var s hs hq t2 p2 w h2).mono ?_
    rintro e w' ⟨N, rfl, -, -, hb⟩
    exact ⟨_, [], rfl, upd_of_below hb, _, _, true, rfl, rfl, .inr ⟨rfl, _, _, rfl⟩, by unfold atoiOk; rw [hq]; rfl, by unfold atoiSat; split <;> decide⟩
  | _ =>
    refine (Go.Proofs.Tryz.strconv_Atoi_syntax_var s hs (hq.trans rfl) t1 p1 w h1).mono ?_
    rintro e w' ⟨N, rfl, -, -, hb⟩
    exact ⟨_, [], rfl, upd_of_below hb, _, _, true, rfl, rfl, .inr ⟨rfl, _, _, rfl⟩, by unfold atoiOk; rw [hq]; rfl, by decide⟩
theorem dec_digits : ∀ (u : Nat), ∀ c ∈ decDigits u, 48 ≤ c.toNat ∧ c.toNat ≤ 57 := by
  intro u
  induction u using Nat.strongRecOn with
  | _ u ih =>
    have hone : ∀ d, d ≤ 9 → 48 ≤ (UInt8.ofNat (48 + d)).toNat ∧ (UInt8.ofNat (48 + d)).toNat ≤ 57 := by
      intro d hd
      rw [UInt8.toNat_ofNat']
      omega
    intro c hc
    by_cases h : u < 10
    · rw [decDigits_one h] at hc
      rw [List.mem_singleton.1 hc]
      exact hone u (by omega)
    · rw [decDigits, dif_neg h] at hc
      rcases List.mem_append.1 hc with hc | hc
      · exact ih (u / 10) (by omega) c hc
      · rw [List.mem_singleton.1 hc]
        exact hone _ (by omega)
theorem atoi_dec {k : Nat} (hk : k < 9223372036854775808) : atoiOk (decS k) = some (k : Int) := by
  unfold atoiOk
  rw [decS_list]
  have hd := dec_digits k
  have hp : parseMag (decDigits k) = .ok k := by
    have e64 : (2 : Nat) ^ 64 - 1 = 18446744073709551615 := by decide
    have hne : decDigits k ≠ [] := by
      intro h0
      have := decDigits_length k
      have h1 := nDigits_pos k
      rw [h0] at this
      simp at this
      omega
    rw [← parseUintB_64]
    unfold parseUintB
    rw [if_neg hne, e64, parse_dec k (by omega)]
  cases hl : decDigits k with
  | nil => rw [hl] at hp; cases hp
  | cons c r =>
    rw [hl] at hd hp
    have hc := hd c (List.mem_cons_self ..)
    rw [atoiAll_plain c r (by omega) (by omega), hp]
    simp only [signless]
    rw [if_neg (by omega)]
theorem atoi_nat {s : ByteArray} {n0 : Int} {be : Bool} (hat : atoiOk s = if be = true then none else some n0) (h45 : ∀ c ∈ s.data.toList, c.toNat ≠ 45) (hs : s.size ≤ 18) :
    natF s = if (be || decide ((⟨(itoa n0).toArray⟩ : ByteArray) ≠ s)) = true then none else some n0.toNat := by
  have key : ∀ k, natF s = some k → atoiOk s = some (k : Int) ∧ (⟨(itoa (k : Int)).toArray⟩ : ByteArray) = s := by
    intro k hk
    have h1 := natF_lt hk
    rw [natF_eq] at hk
    obtain ⟨h2, h3⟩ := numOf_some hk
    have h4 : k < 10 ^ 18 := Nat.lt_of_lt_of_le h1 (Nat.pow_le_pow_right (by decide) hs)
    have h5 : (10 : Nat) ^ 18 = 1000000000000000000 := by decide
    refine ⟨by rw [h2]; exact atoi_dec (by omega), ?_⟩
    rw [itoa_nonneg, h2]
    rfl
  cases be with
  | true =>
    simp only [if_true] at hat
    simp only [Bool.true_or, if_true]
    cases hk : natF s with
    | none => rfl
    | some k => rw [(key k hk).1] at hat; cases hat
  | false =>
    have hat2 : atoiOk s = some n0 := hat
    simp only [Bool.false_or, decide_eq_true_eq]
    by_cases he : (⟨(itoa n0).toArray⟩ : ByteArray) = s
    · rw [if_neg (fun h => h he)]
      have hpos : 0 ≤ n0 := by
        rcases Int.lt_or_le n0 0 with hneg | hpos
        · exfalso
          have h1 : itoa n0 = s.data.toList := by rw [← he]
          unfold itoa at h1
          rw [if_pos hneg] at h1
          have h2 := h45 45 (by rw [← h1]; exact List.mem_cons_self ..)
          exact h2 rfl
        · exact hpos
      have hb : n0 ≤ 9223372036854775807 := by
        unfold atoiOk at hat2
        cases hq : atoiAll s.data.toList with
        | ok m =>
          rw [hq] at hat2
          simp only [Option.some.injEq] at hat2
          have := atoiAll_bounds hq
          omega
        | _ => rw [hq] at hat2; cases hat2
      have hs2 : s = decS n0.toNat := by
        rw [← he]
        unfold decS itoa
        rw [if_neg (by omega)]
      rw [hs2, natF_eq]
      exact numOf_dec (by omega)
    · rw [if_pos he]
      cases hk : natF s with
      | none => rfl
      | some k =>
        obtain ⟨h1, h2⟩ := key k hk
        rw [h1] at hat2
        cases hat2
        exact absurd h2 he
end Go.Rx
/- The program's frame: the document's head, and whether the whole line is there. -/
namespace Go.Rx
open Go Go.RowKit Go.Lib Go.Proofs.YthpejgmkiomfhaaGreatDoor
set_option linter.unusedVariables false
set_option linter.unusedSimpArgs false
def lineV (size place : Int) : Value := .agg #[.string ⟨#[]⟩, .slice none 0 0, .int .i64 size, .int .i64 place]
def frameV (l : List Int) : HeadA → Value
  | .bad a c => .tuple #[lineV 0 a, .int .i64 0, .int .i64 0, .int .i64 c]
  | .ok f k => if 2048 < f + k + 7 then .tuple #[lineV 0 10, .int .i64 0, .int .i64 0, .int .i64 2] else if l.length < f + k + 7 then .tuple #[lineV 0 l.length, .int .i64 0, .int .i64 0, .int .i64 20]
    else .tuple #[lineV ((f + k + 7 : Nat) : Int) 0, .int .i64 (f : Int), .int .i64 ((f + k : Nat) : Int), .int .i64 0]
theorem frameV_ok (l : List Int) (f k : Nat) : frameV l (.ok f k) = if 2048 < f + k + 7 then .tuple #[lineV 0 10, .int .i64 0, .int .i64 0, .int .i64 2] else if l.length < f + k + 7 then .tuple #[lineV 0 l.length, .int .i64 0, .int .i64 0, .int .i64 20]
    else .tuple #[lineV ((f + k + 7 : Nat) : Int) 0, .int .i64 (f : Int), .int .i64 ((f + k : Nat) : Int), .int .i64 0] := rfl
theorem digits_45 {l : List Int} {n : Nat} (h : ∀ j < n, digit l[10 + j]! = true) : ∀ c ∈ (strOf ((l.drop 10).take n)).data.toList, c.toNat ≠ 45 := by
  intro c hc
  rw [strOf_toList] at hc
  obtain ⟨x, hx, rfl⟩ := List.mem_map.1 hc
  obtain ⟨j, hj, rfl⟩ := List.getElem_of_mem hx
  have hj1 : j < n := by rw [List.length_take] at hj; omega
  have hj2 : 10 + j < l.length := by rw [List.length_take, List.length_drop] at hj; omega
  have h2 := h j hj1
  rw [getElem!_pos l (10 + j) hj2] at h2
  have e : ((l.drop 10).take n)[j] = l[10 + j] := by simp
  rw [e]
  unfold digit at h2
  simp only [Bool.and_eq_true, decide_eq_true_eq] at h2
  rw [UInt8.toNat_ofNat']
  omega
theorem itoa_pos {s : ByteArray} {n0 : Int} (he : (⟨(itoa n0).toArray⟩ : ByteArray) = s) (h45 : ∀ c ∈ s.data.toList, c.toNat ≠ 45) : 0 ≤ n0 := by
  rcases Int.lt_or_le n0 0 with hneg | hpos
  · exfalso
    have h1 : itoa n0 = s.data.toList := by rw [← he]
    unfold itoa at h1
    rw [if_pos hneg] at h1
    have h2 := h45 45 (by rw [← h1]; exact List.mem_cons_self ..)
    exact h2 rfl
  · exact hpos
theorem frame_bad {l : List Int} {n : Nat} {n0 : Int} {be : Bool} {s : ByteArray} (hp : preF l 10 0 = 10) (hg : dgF l 5 0 = n) (hl : ¬ 10 + n = l.length) (hs : strOf ((l.drop 10).take n) = s) (hss : s.size = n)
    (hna : natF s = if (be || decide ((⟨(itoa n0).toArray⟩ : ByteArray) ≠ s)) = true then none else some n0.toNat)
    (h : (be || decide ((s.size : Int) = 5) || decide ((⟨(itoa n0).toArray⟩ : ByteArray) ≠ s) || decide (l[10 + n]! ≠ 1)) = true) : headF l = .bad 10 3 := by
  rw [headF, hp, hg, if_neg (by omega), if_neg hl, hs, hna]
  by_cases hb : (be || decide ((⟨(itoa n0).toArray⟩ : ByteArray) ≠ s)) = true
  · rw [if_pos hb]
  · rw [if_neg hb]
    simp only
    rw [if_pos]
    simp only [Bool.or_eq_true, decide_eq_true_eq] at h hb
    rcases h with ((h | h) | h) | h
    · exact absurd (.inl h) hb
    · exact .inl (by omega)
    · exact absurd (.inr h) hb
    · exact .inr h
theorem frame_ok {l : List Int} {n : Nat} {n0 : Int} {be : Bool} {s : ByteArray} (hp : preF l 10 0 = 10) (hg : dgF l 5 0 = n) (hl : ¬ 10 + n = l.length) (hs : strOf ((l.drop 10).take n) = s) (hss : s.size = n) (h45 : ∀ c ∈ s.data.toList, c.toNat ≠ 45)
    (hna : natF s = if (be || decide ((⟨(itoa n0).toArray⟩ : ByteArray) ≠ s)) = true then none else some n0.toNat)
    (h : (be || decide ((s.size : Int) = 5) || decide ((⟨(itoa n0).toArray⟩ : ByteArray) ≠ s) || decide (l[10 + n]! ≠ 1)) = false) : ∃ k : Nat, n0 = k ∧ headF l = .ok (11 + n) k ∧ k < 10000 := by
  simp only [Bool.or_eq_false_iff, decide_eq_false_iff_not] at h
  obtain ⟨⟨⟨rfl, h1⟩, h2⟩, h3⟩ := h
  have he := Classical.not_not.1 h2
  have hpos := itoa_pos he h45
  have hn5 : n ≤ 5 := by rw [← hg]; exact dgF_le l 5 0
  rw [if_neg (by simp [he])] at hna
  refine ⟨n0.toNat, (Int.toNat_of_nonneg hpos).symm, ?_, ?_⟩
  · rw [headF, hp, hg, if_neg (by omega), if_neg hl, hs, hna]
    simp only
    rw [if_neg]
    rintro (h | h)
    · omega
    · exact h3 h
  · have h5 := natF_lt hna
    have h6 : s.size ≤ 4 := by omega
    exact Nat.lt_of_lt_of_le h5 (Nat.pow_le_pow_right (by decide) h6)
set_option maxHeartbeats 4000000 in
set_option maxRecDepth 100000 in
theorem textFrame {w : World} {v : Value} {l : List Int} (hr : RSl byteEnc 1 w [] v l) (hB : isBytes l) (hL : Laid w) :
    Spec Go.Proofs.Tryz.prog 67 #[v] w [] (fun u _ => u = frameV l (headF l)) := by
  have hsm := hr.small
  refine Spec.enter (fn := Go.Proofs.Tryz.f67) (n := 115) [v] Go.Proofs.Tryz.func67 (by kernel_rfl) rfl Go.Proofs.Tryz.ntmps67 Go.Proofs.Tryz.results67 rfl (Own.nil _) ?_
  refine JC.rs ?_
  refine Seq.alloc (cs := [_, _, _, _]) (hz := z.text_line) (k := ?_); intro b2
  refine Seq.p rfl Ev.assign ?_
  refine Seq.p rfl Ev.assign ?_
  refine Seq.p rfl Ev.assign ?_
  refine Seq.nil ?_
  refine JC.seq ?_
  refine JC.rs ?_
  refine Seq.p rfl Ev.move ?_
  refine Seq.nil ?_
  refine JC.blk ?_
  refine JC.loop (α := Nat) (I := fun i e1 H1 => Has [3, 4, 5, 6, 11, 12, 13, 14, 15, 16, 17, 18, 19, 20, 21, 22, 23, 24, 25, 26, 27, 28, 29] [(11, .int .i64 (i : Int))] _ e1 ∧ H1 = _ ∧ i ≤ 10 ∧ i ≤ l.length ∧ preF l (10 - i) i = preF l 10 0) (μ := fun i => 10 - i) 0 ⟨Has.mk Off.refl (allLook_cons (by repeat (first | exact Look.here | apply Look.there (hne := rfl) | exact Look.const | apply Look.mix rfl | exact Look.arg0 | apply Look.args | exact Look.func)) allLook_nil), rfl, by omega, by omega, rfl⟩ ?_
  rintro i _ _ ⟨⟨u, rfl⟩, rfl, hi, hil, hq⟩; dsimp only [setL]
  refine JC.rs ?_
  refine Seq.p rfl Ev.lt ?_
  refine Seq.nil ?_
  refine JC.seq ?_
  first | refine JC.c (ht := fun c12 => ?_) (hf := fun c12 => ?_) | refine JC.cb (ht := fun c12 => ?_) (hf := fun c12 => ?_)
  · -- then_t12
    have hi2 : i < 10 := by omega
    rw [show 10 - i = (10 - (i + 1)) + 1 by omega, preF] at hq
    refine JC.skip ?_
    refine JC.seq ?_
    refine JC.blk ?_
    refine JC.rs ?_
    refine Seq.p rfl Ev.move ?_
    refine Seq.p rfl Ev.assign ?_
    refine Seq.nil ?_
    refine JC.seq ?_
    refine JC.rs ?_
    refine Seq.p rfl Ev.move ?_
    refine Seq.p rfl Ev.move ?_
    refine Seq.p rfl (Ev.lenSl sl.sl_uint8 (hr := hr.r)) ?_
    refine Seq.p rfl Ev.eq ?_
    refine Seq.nil ?_
    first | refine JC.c (ht := fun c17 => ?_) (hf := fun c17 => ?_) | refine JC.cb (ht := fun c17 => ?_) (hf := fun c17 => ?_)
    · -- then_t17
      refine JC.rs ?_
      refine Seq.p rfl Ev.move ?_
      refine Seq.p rfl (Ev.buildN [_, _, _, _] pl.text_line z.text_line) ?_
      refine Seq.storeN [_, _, _, _] sz.text_line (k := ?_)
      refine Seq.p rfl Ev.assign ?_
      refine Seq.p rfl Ev.assign ?_
      refine Seq.p rfl Ev.assign ?_
      refine Seq.nil ?_
      refine JC.ret ?_
      show retQ _ _ _ _ _ _ _ _
      refine retI (RVs.bA ag.text_line (hs := (RVs.t (hs := (RVs.t (hs := (RVs.t (hs := RVs.nil)))))))) (Part.nil _) ?_
      rw [if_neg (by omega)] at hq
      have hh : headF l = .bad (i : Nat) 20 := by rw [headF, ← hq, if_pos hi2, if_pos (by omega)]
      rw [hh]
      rfl
    · -- else_t17
      have hi3 : i < l.length := by omega
      refine JC.skip ?_
      refine JC.qs mixed (by kernel_rfl) ?_
      refine Qui.p rfl Ev.move ?_
      refine Qui.p rfl Ev.move ?_
      refine Qui.p rfl (Ev.iaN sl.sl_uint8 (hr := hr.r)) ?_
      refine Qui.p rfl (Ev.ldE1 sc.uint8 (hr := hr.r)) ?_
      refine Qui.p rfl Ev.move ?_
      refine Qui.p rfl (Ev.indexStr st.string (hi := ⟨by omega, by show (i : Int) < 10; omega⟩)) ?_
      refine Qui.p rfl Ev.ne ?_
      refine Qui.nil ?_
      first | refine JC.c (ht := fun c26 => ?_) (hf := fun c26 => ?_) | refine JC.cb (ht := fun c26 => ?_) (hf := fun c26 => ?_)
      · -- then_t26
        refine JC.rs ?_
        refine Seq.p rfl Ev.move ?_
        refine Seq.p rfl (Ev.buildN [_, _, _, _] pl.text_line z.text_line) ?_
        refine Seq.storeN [_, _, _, _] sz.text_line (k := ?_)
        refine Seq.p rfl Ev.assign ?_
        refine Seq.p rfl Ev.assign ?_
        refine Seq.p rfl Ev.assign ?_
        refine Seq.nil ?_
        refine JC.ret ?_
        show retQ _ _ _ _ _ _ _ _
        refine retI (RVs.bA ag.text_line (hs := (RVs.t (hs := (RVs.t (hs := (RVs.t (hs := RVs.nil)))))))) (Part.nil _) ?_
        rw [begin_get hi2] at c26
        rw [if_neg (fun h => c26 h.2)] at hq
        have hh : headF l = .bad (i : Nat) 3 := by rw [headF, ← hq, if_pos hi2, if_neg (by omega)]
        rw [hh]
        rfl
      · -- else_t26
        refine JC.skip ?_
        refine JC.reg ?_
        refine Seq.p rfl (by first | exact Ev.inc | exact Ev.add) ?_
        refine Seq.p rfl Ev.move ?_
        refine Seq.nil ?_
        rw [begin_get hi2] at c26
        rw [if_pos ⟨hi3, Classical.not_not.1 c26⟩] at hq
        exact ⟨i + 1, _, Part.refl _, ⟨Has.mk (by repeat (first | refine Off.upd ?_ rfl | exact Off.mix | refine Off.mix2 ?_ rfl | exact Off.refl)) (allLook_cons (by repeat (first | exact Look.here | apply Look.there (hne := rfl) | exact Look.const | apply Look.mix rfl | exact Look.arg0 | apply Look.args | exact Look.func)) allLook_nil), rfl, by omega, by omega, hq⟩, by omega⟩
  · -- else_t12
    obtain rfl : i = 10 := by omega
    have hp : preF l 10 0 = 10 := hq.symm
    refine JC.exit ?_ -- 0
    refine JC.rs ?_
    refine Seq.p rfl Ev.assign ?_
    refine Seq.nil ?_
    refine JC.seq ?_
    refine JC.blk ?_
    refine JC.loop (α := Nat) (I := fun n e1 H1 => Has [7, 30, 31, 32, 33, 34, 35, 36, 37, 38, 39, 40, 41, 42, 43, 44, 45, 46, 47, 48, 49, 50, 51, 52, 53] [(7, .int .i64 ((10 + n : Nat) : Int))] _ e1 ∧ H1 = _ ∧ n ≤ 5 ∧ 10 + n ≤ l.length ∧ dgF l (5 - n) n = dgF l 5 0 ∧ ∀ j < n, digit l[10 + j]! = true) (μ := fun n => 5 - n) 0 ⟨Has.mk Off.refl (allLook_cons (by repeat (first | exact Look.here | apply Look.there (hne := rfl) | exact Look.const | apply Look.mix rfl | exact Look.arg0 | apply Look.args | exact Look.func)) allLook_nil), rfl, by omega, by omega, rfl, by omega⟩ ?_
    rintro n _ _ ⟨⟨u, rfl⟩, rfl, hn, hnl, hd, hdg⟩; dsimp only [setL]
    refine JC.seq ?_
    refine JC.rs ?_
    refine Seq.p rfl Ev.move ?_
    refine Seq.p rfl Ev.move ?_
    refine Seq.p rfl (Ev.lenSl sl.sl_uint8 (hr := hr.r)) ?_
    refine Seq.p rfl Ev.lt ?_
    refine Seq.p rfl Ev.move ?_
    refine Seq.andG (D := [34, 35, 36, 37]) (d := 34) (t := 37) (k := 3) (hn := fun h34 => ?_) (hx := ?_)
    · repeat (first | refine Seq.gn rfl rfl rfl rfl ?_ | refine Seq.gu rfl rfl rfl ?_)
      refine Seq.p rfl Ev.pickF ?_
      exact Seq.nil ⟨rfl, (by repeat (first | with_reducible exact Off.refl | refine Off.upd ?_ rfl | exact Off.mix | refine Off.mix2 ?_ rfl)), Look.here⟩
    apply Exists.intro
    refine ⟨fun h34 => ?_, fun u37 => ?_⟩
    · try simp only [decide_eq_true_eq, decide_eq_false_iff_not, Bool.and_eq_true, Bool.or_eq_true, Bool.not_eq_true', Bool.not_eq_false', Bool.or_eq_false_iff, Bool.and_eq_false_imp] at h34
      refine Seq.gy rfl rfl rfl ?_
      refine Seq.p rfl Ev.move ?_
      refine Seq.gy rfl rfl rfl ?_
      refine Seq.p rfl Ev.lt ?_
      refine Seq.p rfl Ev.pickT ?_
      exact Seq.nil ⟨rfl, (by repeat (first | with_reducible exact Off.refl | refine Off.upd ?_ rfl | exact Off.mix | refine Off.mix2 ?_ rfl)), Look.here⟩
    refine Seq.p rfl Ev.move ?_
    refine Seq.andG (D := [38, 39, 40, 41, 42, 43, 44]) (d := 38) (t := 44) (k := 6) (hn := fun h38 => ?_) (hx := ?_)
    · repeat (first | refine Seq.gn rfl rfl rfl rfl ?_ | refine Seq.gu rfl rfl rfl ?_)
      refine Seq.p rfl Ev.pickF ?_
      exact Seq.nil ⟨rfl, (by repeat (first | with_reducible exact Off.refl | refine Off.upd ?_ rfl | exact Off.mix | refine Off.mix2 ?_ rfl)), Look.here⟩
    apply Exists.intro
    refine ⟨fun h38 => ?_, fun u44 => ?_⟩
    · try simp only [decide_eq_true_eq, decide_eq_false_iff_not, Bool.and_eq_true, Bool.or_eq_true, Bool.not_eq_true', Bool.not_eq_false', Bool.or_eq_false_iff, Bool.and_eq_false_imp] at h38
      refine Seq.gy rfl rfl rfl ?_
      refine Seq.p rfl Ev.move ?_
      refine Seq.gy rfl rfl rfl ?_
      refine Seq.p rfl Ev.move ?_
      refine Seq.gy rfl rfl rfl ?_
      refine Seq.p rfl (Ev.iaN sl.sl_uint8 (hr := hr.r)) ?_
      refine Seq.gy rfl rfl rfl ?_
      refine Seq.p rfl (Ev.ldE1 sc.uint8 (hr := hr.r)) ?_
      refine Seq.gy rfl rfl rfl ?_
      refine Seq.p rfl Ev.ge ?_
      refine Seq.p rfl Ev.pickT ?_
      exact Seq.nil ⟨rfl, (by repeat (first | with_reducible exact Off.refl | refine Off.upd ?_ rfl | exact Off.mix | refine Off.mix2 ?_ rfl)), Look.here⟩
    refine Seq.p rfl Ev.move ?_
    refine Seq.andG (D := [45, 46, 47, 48, 49, 50, 51]) (d := 45) (t := 51) (k := 6) (hn := fun h45 => ?_) (hx := ?_)
    · repeat (first | refine Seq.gn rfl rfl rfl rfl ?_ | refine Seq.gu rfl rfl rfl ?_)
      refine Seq.p rfl Ev.pickF ?_
      exact Seq.nil ⟨rfl, (by repeat (first | with_reducible exact Off.refl | refine Off.upd ?_ rfl | exact Off.mix | refine Off.mix2 ?_ rfl)), Look.here⟩
    apply Exists.intro
    refine ⟨fun h45 => ?_, fun u51 => ?_⟩
    · try simp only [decide_eq_true_eq, decide_eq_false_iff_not, Bool.and_eq_true, Bool.or_eq_true, Bool.not_eq_true', Bool.not_eq_false', Bool.or_eq_false_iff, Bool.and_eq_false_imp] at h45
      refine Seq.gy rfl rfl rfl ?_
      refine Seq.p rfl Ev.move ?_
      refine Seq.gy rfl rfl rfl ?_
      refine Seq.p rfl Ev.move ?_
      refine Seq.gy rfl rfl rfl ?_
      refine Seq.p rfl (Ev.iaN sl.sl_uint8 (hr := hr.r)) ?_
      refine Seq.gy rfl rfl rfl ?_
      refine Seq.p rfl (Ev.ldE1 sc.uint8 (hr := hr.r)) ?_
      refine Seq.gy rfl rfl rfl ?_
      refine Seq.p rfl Ev.le ?_
      refine Seq.p rfl Ev.pickT ?_
      exact Seq.nil ⟨rfl, (by repeat (first | with_reducible exact Off.refl | refine Off.upd ?_ rfl | exact Off.mix | refine Off.mix2 ?_ rfl)), Look.here⟩
    refine Seq.nil ?_
    first | refine JC.c (ht := fun c51 => ?_) (hf := fun c51 => ?_) | refine JC.cb (ht := fun c51 => ?_) (hf := fun c51 => ?_)
    · -- then_t51
      refine JC.skip ?_
      refine JC.blk ?_
      refine JC.reg ?_
      refine Seq.p rfl Ev.move ?_
      refine Seq.p rfl (by first | exact Ev.inc | exact Ev.add) ?_
      refine Seq.p rfl Ev.assign ?_
      refine Seq.nil ?_
      simp only [Bool.and_eq_true, decide_eq_true_eq] at c51
      have hdn : digit l[10 + n]! = true := by unfold digit; simp only [Bool.and_eq_true, decide_eq_true_eq]; omega
      rw [show 5 - n = (5 - (n + 1)) + 1 by omega, dgF, if_pos ⟨by omega, hdn⟩] at hd
      refine ⟨n + 1, _, Part.refl _, ⟨Has.mk (by repeat (first | refine Off.upd ?_ rfl | exact Off.mix | refine Off.mix2 ?_ rfl | exact Off.refl)) (allLook_cons (by repeat (first | exact Look.here | apply Look.there (hne := rfl) | exact Look.const | apply Look.mix rfl | exact Look.arg0 | apply Look.args | exact Look.func)) allLook_nil), rfl, by omega, by omega, hd, fun j hj => ?_⟩, by omega⟩
      by_cases h : j = n
      · rw [h]; exact hdn
      · exact hdg j (by omega)
    · -- else_t51
      have hg : dgF l 5 0 = n := by
        rw [← hd]
        rcases Nat.lt_or_ge n 5 with h5 | h5
        · rw [show 5 - n = (5 - (n + 1)) + 1 by omega, dgF, if_neg]
          rintro ⟨h1, h2⟩
          simp only [Bool.and_eq_false_iff, decide_eq_false_iff_not] at c51
          unfold digit at h2
          simp only [Bool.and_eq_true, decide_eq_true_eq] at h2
          omega
        · rw [show 5 - n = 0 by omega]; rfl
      have hsub : RSl byteEnc 1 w [] (subSl v 10 (10 + n) 1) ((l.drop 10).take n) := by
        have h2 := hr.sub (lo := 10) (hi := 10 + n) (by omega) (by omega)
        rwa [show 10 + n - 10 = n by omega] at h2
      have h45 := digits_45 hdg
      have hsl : ((l.drop 10).take n).length = n := by rw [List.length_take, List.length_drop]; omega
      have hss := strOf_size ((l.drop 10).take n)
      rw [hsl] at hss
      refine JC.exit ?_ -- 2
      refine JC.seq ?_
      refine JC.rs ?_
      refine Seq.p rfl Ev.move ?_
      refine Seq.p rfl Ev.move ?_
      refine Seq.p rfl (Ev.lenSl sl.sl_uint8 (hr := hr.r)) ?_
      refine Seq.p rfl Ev.eq ?_
      refine Seq.nil ?_
      first | refine JC.c (ht := fun c57 => ?_) (hf := fun c57 => ?_) | refine JC.cb (ht := fun c57 => ?_) (hf := fun c57 => ?_)
      · -- then_t57
        refine JC.rs ?_
        refine Seq.p rfl Ev.move ?_
        refine Seq.p rfl (Ev.buildN [_, _, _, _] pl.text_line z.text_line) ?_
        refine Seq.storeN [_, _, _, _] sz.text_line (k := ?_)
        refine Seq.p rfl Ev.assign ?_
        refine Seq.p rfl Ev.assign ?_
        refine Seq.p rfl Ev.assign ?_
        refine Seq.nil ?_
        refine JC.ret ?_
        show retQ _ _ _ _ _ _ _ _
        refine retI (RVs.bA ag.text_line (hs := (RVs.t (hs := (RVs.t (hs := (RVs.t (hs := RVs.nil)))))))) (Part.nil _) ?_
        have hh : headF l = .bad l.length 20 := by rw [headF, hp, hg, if_neg (by omega), if_pos (by omega)]
        rw [hh, show ((10 + n : Nat) : Int) = (l.length : Int) by omega]
        rfl
      · -- else_t57
        refine JC.skip ?_
        refine JC.rs ?_
        refine Seq.p rfl Ev.move ?_
        refine Seq.p rfl Ev.move ?_
        refine Seq.p rfl (Ev.cut sl.sl_uint8 (hr := hr.r) (l := 10) (h := 10 + n) (hlo := ⟨_, (by repeat (first | exact Look.here | apply Look.there (hne := rfl) | exact Look.const | apply Look.mix rfl | exact Look.arg0 | apply Look.args | exact Look.func))⟩) (hhi := ⟨_, (by repeat (first | exact Look.here | apply Look.there (hne := rfl) | exact Look.const | apply Look.mix rfl | exact Look.arg0 | apply Look.args | exact Look.func))⟩)) ?_
        refine Seq.p rfl (Ev.strOf (l := (l.drop 10).take n) sl.sl_uint8 it.uint8 st.string (hr := hsub.r)) ?_
        refine Seq.p rfl Ev.assign ?_
        refine Seq.nil ?_
        refine JC.rs ?_
        refine Seq.p rfl Ev.move ?_
        refine Seq.call rfl (fun w hw => textAtoi (by omega) (hL.upd hw)) (F := _) (by exact List.Perm.refl _) ?_
        rintro _ _ ⟨n0, er, be, rfl, rfl, her, hat, hn0, hn1⟩
        simp only [List.nil_append]
        refine Seq.p rfl Ev.move ?_
        refine Seq.p rfl Ev.extract ?_
        refine Seq.p rfl Ev.extract ?_
        refine Seq.p rfl Ev.assign ?_
        refine Seq.p rfl Ev.assign ?_
        refine Seq.nil ?_
        refine JC.seq ?_
        refine JC.rs ?_
        refine Seq.p rfl Ev.move ?_
        refine Seq.p rfl (Ev.neErr her (by kernel_rfl)) ?_
        refine Seq.p rfl Ev.move ?_
        refine Seq.orG (D := [71, 72, 73, 74, 75]) (d := 71) (t := 75) (k := 4) (hn := fun h71 => ?_) (hx := ?_)
        · repeat (first | refine Seq.gn rfl rfl rfl rfl ?_ | refine Seq.gu rfl rfl rfl ?_)
          refine Seq.p rfl Ev.pickT ?_
          exact Seq.nil ⟨rfl, (by repeat (first | with_reducible exact Off.refl | refine Off.upd ?_ rfl | exact Off.mix | refine Off.mix2 ?_ rfl)), Look.here⟩
        apply Exists.intro
        refine ⟨fun h71 => ?_, fun u75 => ?_⟩
        · try simp only [decide_eq_true_eq, decide_eq_false_iff_not, Bool.and_eq_true, Bool.or_eq_true, Bool.not_eq_true', Bool.not_eq_false', Bool.or_eq_false_iff, Bool.and_eq_false_imp] at h71
          refine Seq.gy rfl rfl rfl ?_
          refine Seq.p rfl Ev.move ?_
          refine Seq.gy rfl rfl rfl ?_
          refine Seq.p rfl (Ev.lenStr st.string) ?_
          refine Seq.gy rfl rfl rfl ?_
          refine Seq.p rfl Ev.eq ?_
          refine Seq.p rfl Ev.pickF ?_
          exact Seq.nil ⟨rfl, (by repeat (first | with_reducible exact Off.refl | refine Off.upd ?_ rfl | exact Off.mix | refine Off.mix2 ?_ rfl)), Look.here⟩
        refine Seq.p rfl Ev.move ?_
        refine Seq.orG (D := [76, 77, 78, 79, 80, 81]) (d := 76) (t := 81) (k := 5) (hn := fun h76 => ?_) (hx := ?_)
        · repeat (first | refine Seq.gn rfl rfl rfl rfl ?_ | refine Seq.gu rfl rfl rfl ?_)
          refine Seq.p rfl Ev.pickT ?_
          exact Seq.nil ⟨rfl, (by repeat (first | with_reducible exact Off.refl | refine Off.upd ?_ rfl | exact Off.mix | refine Off.mix2 ?_ rfl)), Look.here⟩
        apply Exists.intro
        refine ⟨fun h76 => ?_, fun u81 => ?_⟩
        · try simp only [decide_eq_true_eq, decide_eq_false_iff_not, Bool.and_eq_true, Bool.or_eq_true, Bool.not_eq_true', Bool.not_eq_false', Bool.or_eq_false_iff, Bool.and_eq_false_imp] at h76
          refine Seq.gy rfl rfl rfl ?_
          refine Seq.p rfl Ev.move ?_
          refine Seq.gy rfl rfl rfl ?_
          refine Seq.callP rfl (fun w hw => textItoa hn0 hn1 (hL.upd hw)) ?_
          refine Seq.gy rfl rfl rfl ?_
          refine Seq.p rfl Ev.move ?_
          refine Seq.gy rfl rfl rfl ?_
          refine Seq.p rfl Ev.neStr ?_
          refine Seq.p rfl Ev.pickF ?_
          exact Seq.nil ⟨rfl, (by repeat (first | with_reducible exact Off.refl | refine Off.upd ?_ rfl | exact Off.mix | refine Off.mix2 ?_ rfl)), Look.here⟩
        refine Seq.p rfl Ev.move ?_
        refine Seq.orG (D := [82, 83, 84, 85, 86, 87, 88]) (d := 82) (t := 88) (k := 6) (hn := fun h82 => ?_) (hx := ?_)
        · repeat (first | refine Seq.gn rfl rfl rfl rfl ?_ | refine Seq.gu rfl rfl rfl ?_)
          refine Seq.p rfl Ev.pickT ?_
          exact Seq.nil ⟨rfl, (by repeat (first | with_reducible exact Off.refl | refine Off.upd ?_ rfl | exact Off.mix | refine Off.mix2 ?_ rfl)), Look.here⟩
        apply Exists.intro
        refine ⟨fun h82 => ?_, fun u88 => ?_⟩
        · try simp only [decide_eq_true_eq, decide_eq_false_iff_not, Bool.and_eq_true, Bool.or_eq_true, Bool.not_eq_true', Bool.not_eq_false', Bool.or_eq_false_iff, Bool.and_eq_false_imp] at h82
          refine Seq.gy rfl rfl rfl ?_
          refine Seq.p rfl Ev.move ?_
          refine Seq.gy rfl rfl rfl ?_
          refine Seq.p rfl Ev.move ?_
          refine Seq.gy rfl rfl rfl ?_
          refine Seq.p rfl (Ev.iaN sl.sl_uint8 (hr := hr.r)) ?_
          refine Seq.gy rfl rfl rfl ?_
          refine Seq.p rfl (Ev.ldE1 sc.uint8 (hr := hr.r)) ?_
          refine Seq.gy rfl rfl rfl ?_
          refine Seq.p rfl Ev.ne ?_
          refine Seq.p rfl Ev.pickF ?_
          exact Seq.nil ⟨rfl, (by repeat (first | with_reducible exact Off.refl | refine Off.upd ?_ rfl | exact Off.mix | refine Off.mix2 ?_ rfl)), Look.here⟩
        refine Seq.nil ?_
        first | refine JC.c (ht := fun c88 => ?_) (hf := fun c88 => ?_) | refine JC.cb (ht := fun c88 => ?_) (hf := fun c88 => ?_)
        · -- then_t88
          have hna := atoi_nat hat h45 (by omega)
          refine JC.rs ?_
          refine Seq.p rfl (Ev.buildN [_, _, _, _] pl.text_line z.text_line) ?_
          refine Seq.storeN [_, _, _, _] sz.text_line (k := ?_)
          refine Seq.p rfl Ev.assign ?_
          refine Seq.p rfl Ev.assign ?_
          refine Seq.p rfl Ev.assign ?_
          refine Seq.nil ?_
          refine JC.ret ?_
          show retQ _ _ _ _ _ _ _ _
          refine retI (RVs.bA ag.text_line (hs := (RVs.t (hs := (RVs.t (hs := (RVs.t (hs := RVs.nil)))))))) (Part.nil _) ?_
          have hh := frame_bad hp hg (by omega) rfl hss hna c88
          rw [hh]
          rfl
        · -- else_t88
          have hna := atoi_nat hat h45 (by omega)
          obtain ⟨k, rfl, hh, hk⟩ := frame_ok hp hg (by omega) rfl hss h45 hna c88
          refine JC.skip ?_
          refine JC.rs ?_
          refine Seq.p rfl Ev.move ?_
          refine Seq.p rfl (Ev.addN (m := 10 + n) (c := 1)) ?_
          refine Seq.p rfl Ev.assign ?_
          refine Seq.nil ?_
          refine JC.rs ?_
          refine Seq.p rfl Ev.move ?_
          refine Seq.p rfl Ev.move ?_
          refine Seq.p rfl (Ev.addN (m := 10 + n + 1) (c := k)) ?_
          refine Seq.p rfl Ev.assign ?_
          refine Seq.nil ?_
          refine JC.rs ?_
          refine Seq.p rfl Ev.move ?_
          refine Seq.p rfl (Ev.addN (m := 10 + n + 1 + k) (c := 7)) ?_
          refine Seq.p rfl (Ev.faB fd.text_line_2) ?_
          refine Seq.storeN [_, _, _, _] sz.int (k := ?_)
          refine Seq.nil ?_
          refine JC.seq ?_
          refine JC.blk ?_
          refine JC.rs ?_
          refine Seq.p rfl (Ev.faB fd.text_line_2) ?_
          refine Seq.p rfl (Ev.ldB sc.int) ?_
          refine Seq.p rfl Ev.gt ?_
          refine Seq.p rfl Ev.assign ?_
          refine Seq.nil ?_
          first | refine JC.c (ht := fun c98 => ?_) (hf := fun c98 => ?_) | refine JC.cb (ht := fun c98 => ?_) (hf := fun c98 => ?_)
          · -- then_t98
            refine JC.rs ?_
            refine Seq.p rfl (Ev.buildN [_, _, _, _] pl.text_line z.text_line) ?_
            refine Seq.storeN [_, _, _, _] sz.text_line (k := ?_)
            refine Seq.p rfl Ev.assign ?_
            refine Seq.p rfl Ev.assign ?_
            refine Seq.p rfl Ev.assign ?_
            refine Seq.nil ?_
            refine JC.ret ?_
            show retQ _ _ _ _ _ _ _ _
            refine retI (RVs.bA ag.text_line (hs := (RVs.t (hs := (RVs.t (hs := (RVs.t (hs := RVs.nil)))))))) (Part.nil _) ?_
            rw [hh, frameV_ok]
            rw [if_pos (by omega)]
            rfl
          · -- else_t98
            refine JC.rs ?_
            refine Seq.p rfl Ev.move ?_
            refine Seq.p rfl (Ev.lenSl sl.sl_uint8 (hr := hr.r)) ?_
            refine Seq.p rfl (Ev.faB fd.text_line_2) ?_
            refine Seq.p rfl (Ev.ldB sc.int) ?_
            refine Seq.p rfl Ev.lt ?_
            refine Seq.p rfl Ev.assign ?_
            refine Seq.nil ?_
            first | refine JC.c (ht := fun c103 => ?_) (hf := fun c103 => ?_) | refine JC.cb (ht := fun c103 => ?_) (hf := fun c103 => ?_)
            · -- then_t103
              refine JC.rs ?_
              refine Seq.p rfl Ev.move ?_
              refine Seq.p rfl (Ev.lenSl sl.sl_uint8 (hr := hr.r)) ?_
              refine Seq.p rfl (Ev.buildN [_, _, _, _] pl.text_line z.text_line) ?_
              refine Seq.storeN [_, _, _, _] sz.text_line (k := ?_)
              refine Seq.p rfl Ev.assign ?_
              refine Seq.p rfl Ev.assign ?_
              refine Seq.p rfl Ev.assign ?_
              refine Seq.nil ?_
              refine JC.ret ?_
              show retQ _ _ _ _ _ _ _ _
              refine retI (RVs.bA ag.text_line (hs := (RVs.t (hs := (RVs.t (hs := (RVs.t (hs := RVs.nil)))))))) (Part.nil _) ?_
              rw [hh, frameV_ok]
              rw [if_neg (by omega), if_pos (by omega)]
              rfl
            · -- else_t103
              refine JC.skip ?_
              refine JC.rs ?_
              refine Seq.p rfl (Ev.ldBA ag.text_line) ?_
              refine Seq.p rfl Ev.move ?_
              refine Seq.p rfl Ev.move ?_
              refine Seq.storeN [_, _, _, _] sz.text_line (k := ?_)
              refine Seq.p rfl Ev.assign ?_
              refine Seq.p rfl Ev.assign ?_
              refine Seq.p rfl Ev.assign ?_
              refine Seq.nil ?_
              refine JC.ret ?_
              show retQ _ _ _ _ _ _ _ _
              refine retI (RVs.bA ag.text_line (hs := (RVs.t (hs := (RVs.t (hs := (RVs.t (hs := RVs.nil)))))))) (Part.nil _) ?_
              rw [hh, frameV_ok]
              rw [if_neg (by omega), if_neg (by omega), show 11 + n + k + 7 = 10 + n + 1 + k + 7 by omega, show 11 + n + k = 10 + n + 1 + k by omega, show 11 + n = 10 + n + 1 by omega]
              rfl
end Go.Rx
/- What trails a line, by the program. -/
namespace Go.Rx
open Go Go.RowKit Go.Lib Go.Proofs.YthpejgmkiomfhaaGreatDoor
set_option linter.unusedVariables false
set_option linter.unusedSimpArgs false
def trailB (t : List Int) : Bool := (((t.drop 3).take 3).all digit && decide (t.take 3 = [49, 48, 61])) && decide (t[6]! = 1)
theorem all_get {l : List Int} {p : Int → Bool} : l.all p = true ↔ ∀ i < l.length, p l[i]! = true := by
  rw [List.all_eq_true]
  constructor
  · intro h i hi
    rw [getElem!_pos l i hi]
    exact h _ (List.getElem_mem _)
  · intro h x hx
    obtain ⟨i, hi, rfl⟩ := List.getElem_of_mem hx
    have := h i hi
    rwa [getElem!_pos l i hi] at this
theorem all_not {l : List Int} {p : Int → Bool} {i : Nat} (hi : i < l.length) (h : p l[i]! = false) : l.all p = false := by
  cases ha : l.all p with
  | false => rfl
  | true => rw [all_get.1 ha i hi] at h; cases h
set_option maxHeartbeats 2000000 in
set_option maxRecDepth 100000 in
theorem textTrailed {w : World} {v : Value} {t : List Int} (hr : RSl byteEnc 1 w [] v t) (hB : isBytes t) (h7 : t.length = 7) :
    Spec Go.Proofs.Tryz.prog 68 #[v] w [] (fun u _ => u = .bool (trailB t)) := by
  have hsub : RSl byteEnc 1 w [] (subSl v 3 6 1) ((t.drop 3).take 3) := hr.sub (lo := 3) (hi := 6) (by omega) (by omega)
  have hhead : RSl byteEnc 1 w [] (subSl v 0 3 1) (t.take 3) := by
    have h2 := hr.sub (lo := 0) (hi := 3) (by omega) (by omega)
    rwa [List.drop_zero] at h2
  have hl3 : ((t.drop 3).take 3).length = 3 := by rw [List.length_take, List.length_drop]; omega
  generalize hm : (t.drop 3).take 3 = m at hsub hl3
  refine Spec.enter (fn := Go.Proofs.Tryz.f68) (n := 29) [v] Go.Proofs.Tryz.func68 (by kernel_rfl) rfl Go.Proofs.Tryz.ntmps68 Go.Proofs.Tryz.results68 rfl (Own.nil _) ?_
  refine JC.rs ?_
  refine Seq.p rfl Ev.assign ?_
  refine Seq.nil ?_
  refine JC.seq ?_
  refine JC.rs ?_
  refine Seq.p rfl Ev.move ?_
  refine Seq.p rfl (Ev.cut sl.sl_uint8 (hr := hr.r) (l := 3) (h := 6) (hlo := ⟨_, (by repeat (first | exact Look.here | apply Look.there (hne := rfl) | exact Look.const | apply Look.mix rfl | exact Look.arg0 | apply Look.args | exact Look.func))⟩) (hhi := ⟨_, (by repeat (first | exact Look.here | apply Look.there (hne := rfl) | exact Look.const | apply Look.mix rfl | exact Look.arg0 | apply Look.args | exact Look.func))⟩)) ?_
  refine Seq.p rfl (Ev.lenSl sl.sl_uint8 (hr := hsub.r)) ?_
  refine Seq.p rfl Ev.move ?_
  refine Seq.nil ?_
  refine JC.blk ?_
  refine JC.loop (α := Nat) (I := fun i e1 H1 => Has [2, 4, 8, 9, 10, 11, 12, 13, 14, 15, 16, 17, 18] [(8, .int .i64 (i : Int))] _ e1 ∧ H1 = _ ∧ i ≤ m.length ∧ ∀ j < i, digit m[j]! = true) (μ := fun i => m.length - i) 0 ⟨Has.mk Off.refl (allLook_cons (by repeat (first | exact Look.here | apply Look.there (hne := rfl) | exact Look.const | apply Look.mix rfl | exact Look.arg0 | apply Look.args | exact Look.func)) allLook_nil), rfl, by omega, by omega⟩ ?_
  rintro i _ _ ⟨⟨u, rfl⟩, rfl, hi, hno⟩; dsimp only [setL]
  refine JC.rs ?_
  refine Seq.p rfl Ev.lt ?_
  refine Seq.nil ?_
  refine JC.seq ?_
  first | refine JC.c (ht := fun c9 => ?_) (hf := fun c9 => ?_) | refine JC.cb (ht := fun c9 => ?_) (hf := fun c9 => ?_)
  · -- then_t9
    have hi2 : i < m.length := by omega
    refine JC.skip ?_
    refine JC.seq ?_
    refine JC.blk ?_
    refine JC.rs ?_
    refine Seq.p rfl (Ev.iaN sl.sl_uint8 (hr := hsub.r)) ?_
    refine Seq.p rfl (Ev.ldE1 sc.uint8 (hr := hsub.r)) ?_
    refine Seq.p rfl Ev.assign ?_
    refine Seq.nil ?_
    refine JC.rs ?_
    refine Seq.p rfl Ev.move ?_
    refine Seq.p rfl Ev.lt ?_
    refine Seq.p rfl Ev.move ?_
    refine Seq.orG (D := [14, 15, 16, 17]) (d := 14) (t := 17) (k := 3) (hn := fun h14 => ?_) (hx := ?_)
    · repeat (first | refine Seq.gn rfl rfl rfl rfl ?_ | refine Seq.gu rfl rfl rfl ?_)
      refine Seq.p rfl Ev.pickT ?_
      exact Seq.nil ⟨rfl, (by repeat (first | with_reducible exact Off.refl | refine Off.upd ?_ rfl | exact Off.mix | refine Off.mix2 ?_ rfl)), Look.here⟩
    apply Exists.intro
    refine ⟨fun h14 => ?_, fun u17 => ?_⟩
    · try simp only [decide_eq_true_eq, decide_eq_false_iff_not, Bool.and_eq_true, Bool.or_eq_true, Bool.not_eq_true', Bool.not_eq_false', Bool.or_eq_false_iff, Bool.and_eq_false_imp] at h14
      refine Seq.gy rfl rfl rfl ?_
      refine Seq.p rfl Ev.move ?_
      refine Seq.gy rfl rfl rfl ?_
      refine Seq.p rfl Ev.gt ?_
      refine Seq.p rfl Ev.pickF ?_
      exact Seq.nil ⟨rfl, (by repeat (first | with_reducible exact Off.refl | refine Off.upd ?_ rfl | exact Off.mix | refine Off.mix2 ?_ rfl)), Look.here⟩
    refine Seq.nil ?_
    first | refine JC.c (ht := fun c17 => ?_) (hf := fun c17 => ?_) | refine JC.cb (ht := fun c17 => ?_) (hf := fun c17 => ?_)
    · -- then_t17
      refine JC.rs ?_
      refine Seq.p rfl Ev.assign ?_
      refine Seq.nil ?_
      refine JC.ret ?_
      show retQ _ _ _ _ _ _ _ _
      refine ret1 (hp := Part.nil _) (hpost := ?_)
      have hd : digit m[i]! = false := by unfold digit; simp only [Bool.or_eq_true, decide_eq_true_eq] at c17; simp only [Bool.and_eq_false_iff, decide_eq_false_iff_not]; omega
      unfold trailB
      rw [hm, all_not hi2 hd]
      rfl
    · -- else_t17
      refine JC.skip ?_
      refine JC.reg ?_
      refine Seq.p rfl (by first | exact Ev.inc | exact Ev.add) ?_
      refine Seq.p rfl Ev.move ?_
      refine Seq.nil ?_
      have hd : digit m[i]! = true := by unfold digit; simp only [Bool.or_eq_false_iff, decide_eq_false_iff_not] at c17; simp only [Bool.and_eq_true, decide_eq_true_eq]; omega
      refine ⟨i + 1, _, Part.refl _, ⟨Has.mk (by repeat (first | refine Off.upd ?_ rfl | exact Off.mix | refine Off.mix2 ?_ rfl | exact Off.refl)) (allLook_cons (by repeat (first | exact Look.here | apply Look.there (hne := rfl) | exact Look.const | apply Look.mix rfl | exact Look.arg0 | apply Look.args | exact Look.func)) allLook_nil), rfl, by omega, fun j hj => ?_⟩, by omega⟩
      by_cases h : j = i
      · rw [h]; exact hd
      · exact hno j (by omega)
  · -- else_t9
    have ha : m.all digit = true := all_get.2 fun j hj => hno j (by omega)
    refine JC.exit ?_ -- 0
    refine JC.rs ?_
    refine Seq.p rfl Ev.move ?_
    refine Seq.p rfl (Ev.cut sl.sl_uint8 (hr := hr.r) (l := 0) (h := 3) (hlo := rfl) (hhi := ⟨_, (by repeat (first | exact Look.here | apply Look.there (hne := rfl) | exact Look.const | apply Look.mix rfl | exact Look.arg0 | apply Look.args | exact Look.func))⟩)) ?_
    refine Seq.p rfl (Ev.strOf (l := t.take 3) sl.sl_uint8 it.uint8 st.string (hr := hhead.r)) ?_
    refine Seq.p rfl Ev.eqStr ?_
    refine Seq.p rfl Ev.move ?_
    refine Seq.andG (D := [23, 24, 25, 26, 27, 28]) (d := 23) (t := 28) (k := 5) (hn := fun h23 => ?_) (hx := ?_)
    · repeat (first | refine Seq.gn rfl rfl rfl rfl ?_ | refine Seq.gu rfl rfl rfl ?_)
      refine Seq.p rfl Ev.pickF ?_
      exact Seq.nil ⟨rfl, (by repeat (first | with_reducible exact Off.refl | refine Off.upd ?_ rfl | exact Off.mix | refine Off.mix2 ?_ rfl)), Look.here⟩
    apply Exists.intro
    refine ⟨fun h23 => ?_, fun u28 => ?_⟩
    · try simp only [decide_eq_true_eq, decide_eq_false_iff_not, Bool.and_eq_true, Bool.or_eq_true, Bool.not_eq_true', Bool.not_eq_false', Bool.or_eq_false_iff, Bool.and_eq_false_imp] at h23
      refine Seq.gy rfl rfl rfl ?_
      refine Seq.p rfl Ev.move ?_
      refine Seq.gy rfl rfl rfl ?_
      refine Seq.p rfl (Ev.iaN sl.sl_uint8 (i := 6) (hr := hr.r) (hi := by rw [h7]; decide)) ?_
      refine Seq.gy rfl rfl rfl ?_
      refine Seq.p rfl (Ev.ldE1 sc.uint8 (i := 6) (hr := hr.r) (hi := by rw [h7]; decide)) ?_
      refine Seq.gy rfl rfl rfl ?_
      refine Seq.p rfl Ev.eq ?_
      refine Seq.p rfl Ev.pickT ?_
      exact Seq.nil ⟨rfl, (by repeat (first | with_reducible exact Off.refl | refine Off.upd ?_ rfl | exact Off.mix | refine Off.mix2 ?_ rfl)), Look.here⟩
    refine Seq.p rfl Ev.assign ?_
    refine Seq.nil ?_
    refine JC.ret ?_
    show retQ _ _ _ _ _ _ _ _
    refine ret1 (hp := Part.nil _) (hpost := ?_)
    unfold trailB
    rw [hm, ha, Bool.true_and]
    congr 1
    congr 1
    rw [decide_eq_decide]
    rw [show (⟨#[49, 48, 61]⟩ : ByteArray) = strOf [49, 48, 61] from rfl]
    exact strOf_inj (fun n hn => hB n (List.mem_of_mem_take hn)) (by decide)
end Go.Rx
/- A text cut at its first '='; the first place of a byte. -/
namespace Go.Rx
open Go Go.RowKit Go.Lib Go.Proofs.YthpejgmkiomfhaaGreatDoor
set_option linter.unusedVariables false
set_option linter.unusedSimpArgs false
def firstF (c : Int) : List Int → Nat
  | [] => 0
  | x :: r => if x = c then 0 else firstF c r + 1
theorem firstF_le (c : Int) : ∀ l : List Int, firstF c l ≤ l.length
  | [] => Nat.le_refl _
  | x :: r => by
    unfold firstF
    split
    · simp
    · have := firstF_le c r
      simp
      omega
theorem indexByte_first {c : UInt8} : ∀ {l : List Int}, isBytes l → indexByte (l.map fun n => UInt8.ofNat n.toNat) c = if firstF c.toNat l < l.length then (firstF c.toNat l : Int) else -1
  | [], _ => rfl
  | x :: r, h => by
    have hx := h x (List.mem_cons_self ..)
    have ih := indexByte_first (c := c) (l := r) (fun y hy => h y (List.mem_cons_of_mem _ hy))
    have hle := firstF_le c.toNat r
    have hc : (UInt8.ofNat x.toNat == c) = decide (x = (c.toNat : Int)) := by
      rw [Bool.eq_iff_iff, beq_iff_eq, decide_eq_true_eq]
      constructor
      · intro he
        have := congrArg UInt8.toNat he
        rw [UInt8.toNat_ofNat'] at this
        omega
      · intro he
        rw [he, Int.toNat_natCast, UInt8.ofNat_toNat]
    by_cases he : x = (c.toNat : Int)
    · have e1 : firstF c.toNat (x :: r) = 0 := if_pos he
      rw [e1, if_pos (by simp)]
      simp only [List.map_cons, indexByte, hc]
      rw [decide_eq_true he, if_pos rfl]
      rfl
    · have e1 : firstF c.toNat (x :: r) = firstF c.toNat r + 1 := if_neg he
      rw [e1]
      simp only [List.map_cons, indexByte, hc, List.length_cons]
      rw [decide_eq_false he, if_neg (by simp), ih]
      by_cases hf : firstF c.toNat r < r.length
      · have hne : ((firstF c.toNat r : Int) == -1) = false := by
          rw [beq_eq_false_iff_ne]
          omega
        have h2 : firstF c.toNat r + 1 < r.length + 1 := by omega
        simp only [if_pos hf, hne, if_pos h2, Bool.false_eq_true, if_false]
        omega
      · have h2 : ¬ firstF c.toNat r + 1 < r.length + 1 := by omega
        simp only [if_neg hf, if_neg h2]
        rfl
def cutV (F : List Int) : Value := if firstF 61 F < F.length then .tuple #[.string (strOf (F.take (firstF 61 F))), .string (strOf (F.drop (firstF 61 F + 1))), .bool true] else .tuple #[.string (strOf F), .string ⟨#[]⟩, .bool false]
theorem indexSpec {w : World} {F : List Int} (hB : isBytes F) : Spec Go.Proofs.Tryz.prog 126 #[.string (strOf F), .string ⟨#[61]⟩] w [] (fun u _ => u = .int .i64 (if firstF 61 F < F.length then (firstF 61 F : Int) else -1)) := by
  refine spec_of_below ⟨Go.Proofs.Tryz.f126, Go.Proofs.Tryz.func126, by kernel_rfl, rfl⟩ ((Go.Proofs.Tryz.stringslite_Index_one (strOf F) 61 w).mono ?_)
  rintro e w' ⟨rfl, rfl⟩
  refine ⟨?_, Below.refl _ _⟩
  rw [strOf_toList, indexByte_first hB]
  rfl
set_option maxHeartbeats 1000000 in
set_option maxRecDepth 100000 in
theorem cutHit {w : World} {F : List Int} (hB : isBytes F) (hl : F.length ≤ 281474976710656) (h : firstF 61 F < F.length) : Spec Go.Proofs.Tryz.prog 111 #[.string (strOf F), .string ⟨#[61]⟩] w [] (fun u _ => u = cutV F) := by
  have hI := fun w => indexSpec (w := w) hB
  rw [if_pos h] at hI
  have hss := strOf_size F
  generalize hk : firstF 61 F = k at hI h
  refine Spec.enter (fn := Go.Proofs.Tryz.f111) (n := 23) [.string (strOf F), .string ⟨#[61]⟩] Go.Proofs.Tryz.func111 (by kernel_rfl) rfl Go.Proofs.Tryz.ntmps111 Go.Proofs.Tryz.results111 rfl (Own.nil _) ?_
  refine JC.rs ?_
  refine Seq.p rfl Ev.assign ?_
  refine Seq.p rfl Ev.assign ?_
  refine Seq.p rfl Ev.assign ?_
  refine Seq.nil ?_
  refine JC.seq ?_
  refine JC.rs ?_
  refine Seq.p rfl Ev.move ?_
  refine Seq.p rfl Ev.move ?_
  refine Seq.callP rfl (fun w hw => hI w) ?_
  refine Seq.p rfl Ev.assign ?_
  refine Seq.nil ?_
  refine JC.rs ?_
  refine Seq.p rfl Ev.move ?_
  refine Seq.p rfl Ev.ge ?_
  refine Seq.nil ?_
  first | refine JC.c (ht := fun c12 => ?_) (hf := fun c12 => ?_) | refine JC.cb (ht := fun c12 => ?_) (hf := fun c12 => ?_)
  · -- then_t12
    refine JC.qs mixed (by kernel_rfl) ?_
    refine Qui.p rfl Ev.move ?_
    refine Qui.p rfl Ev.move ?_
    refine Qui.p rfl (Ev.cutStr (s := strOf F) (l := 0) (h := k) st.string (hlo := rfl) (hhi := ⟨_, (by repeat (first | exact Look.here | apply Look.there (hne := rfl) | exact Look.const | apply Look.mix rfl | exact Look.arg0 | apply Look.args | exact Look.func))⟩)) ?_
    refine Qui.p rfl Ev.move ?_
    refine Qui.p rfl Ev.move ?_
    refine Qui.p rfl Ev.move ?_
    refine Qui.p rfl (Ev.lenStr st.string) ?_
    refine Qui.p rfl (Ev.addN (m := k) (c := 1)) ?_
    refine Qui.p rfl (Ev.cutStr (s := strOf F) (l := k + 1) (h := (strOf F).size) st.string (hlo := ⟨_, (by repeat (first | exact Look.here | apply Look.there (hne := rfl) | exact Look.const | apply Look.mix rfl | exact Look.arg0 | apply Look.args | exact Look.func))⟩) (hhi := rfl)) ?_
    refine Qui.p rfl Ev.assign ?_
    refine Qui.p rfl Ev.assign ?_
    refine Qui.p rfl Ev.assign ?_
    refine Qui.nil ?_
    refine JC.ret ?_
    show retQ _ _ _ _ _ _ _ _
    refine ret3 (hp := Part.nil _) (hpost := ?_)
    unfold cutV
    rw [hk, if_pos h, strOf_cut, strOf_cut, hss, List.take_length, List.drop_zero]
    try rfl
  · -- else_t12
    exact absurd (by omega) c12
set_option maxHeartbeats 1000000 in
set_option maxRecDepth 100000 in
theorem cutMiss {w : World} {F : List Int} (hB : isBytes F) (h : ¬ firstF 61 F < F.length) : Spec Go.Proofs.Tryz.prog 111 #[.string (strOf F), .string ⟨#[61]⟩] w [] (fun u _ => u = cutV F) := by
  have hI := fun w => indexSpec (w := w) hB
  rw [if_neg h] at hI
  refine Spec.enter (fn := Go.Proofs.Tryz.f111) (n := 23) [.string (strOf F), .string ⟨#[61]⟩] Go.Proofs.Tryz.func111 (by kernel_rfl) rfl Go.Proofs.Tryz.ntmps111 Go.Proofs.Tryz.results111 rfl (Own.nil _) ?_
  refine JC.rs ?_
  refine Seq.p rfl Ev.assign ?_
  refine Seq.p rfl Ev.assign ?_
  refine Seq.p rfl Ev.assign ?_
  refine Seq.nil ?_
  refine JC.seq ?_
  refine JC.rs ?_
  refine Seq.p rfl Ev.move ?_
  refine Seq.p rfl Ev.move ?_
  refine Seq.callP rfl (fun w hw => hI w) ?_
  refine Seq.p rfl Ev.assign ?_
  refine Seq.nil ?_
  refine JC.rs ?_
  refine Seq.p rfl Ev.move ?_
  refine Seq.p rfl Ev.ge ?_
  refine Seq.nil ?_
  first | refine JC.c (ht := fun c12 => ?_) (hf := fun c12 => ?_) | refine JC.cb (ht := fun c12 => ?_) (hf := fun c12 => ?_)
  · -- then_t12
    exact absurd c12 (by omega)
  · -- else_t12
    refine JC.skip ?_
    refine JC.rs ?_
    refine Seq.p rfl Ev.move ?_
    refine Seq.p rfl Ev.assign ?_
    refine Seq.p rfl Ev.assign ?_
    refine Seq.p rfl Ev.assign ?_
    refine Seq.nil ?_
    refine JC.ret ?_
    show retQ _ _ _ _ _ _ _ _
    refine ret3 (hp := Part.nil _) (hpost := ?_)
    unfold cutV
    rw [if_neg h]
    try rfl
set_option maxHeartbeats 1000000 in
set_option maxRecDepth 100000 in
theorem textCut {w : World} {F : List Int} (hB : isBytes F) (hl : F.length ≤ 281474976710656) : Spec Go.Proofs.Tryz.prog 98 #[.string (strOf F), .string ⟨#[61]⟩] w [] (fun u _ => u = cutV F) := by
  have hC : ∀ w, Spec Go.Proofs.Tryz.prog 111 #[.string (strOf F), .string ⟨#[61]⟩] w [] (fun u _ => u = cutV F) := fun w => by
    by_cases h : firstF 61 F < F.length
    · exact cutHit hB hl h
    · exact cutMiss hB h
  have hV : ∃ a b c, cutV F = .tuple #[.string a, .string b, .bool c] := by
    unfold cutV
    split
    · exact ⟨_, _, _, rfl⟩
    · exact ⟨_, _, _, rfl⟩
  obtain ⟨a, b, c, hV⟩ := hV
  rw [hV] at hC ⊢
  refine Spec.enter (fn := Go.Proofs.Tryz.f98) (n := 13) [.string (strOf F), .string ⟨#[61]⟩] Go.Proofs.Tryz.func98 (by kernel_rfl) rfl Go.Proofs.Tryz.ntmps98 Go.Proofs.Tryz.results98 rfl (Own.nil _) ?_
  refine JC.rs ?_
  refine Seq.p rfl Ev.assign ?_
  refine Seq.p rfl Ev.assign ?_
  refine Seq.p rfl Ev.assign ?_
  refine Seq.nil ?_
  refine JC.rs ?_
  refine Seq.p rfl Ev.move ?_
  refine Seq.p rfl Ev.move ?_
  refine Seq.callP rfl (fun w hw => hC w) ?_
  refine Seq.p rfl Ev.extract ?_
  refine Seq.p rfl Ev.extract ?_
  refine Seq.p rfl Ev.extract ?_
  refine Seq.p rfl Ev.assign ?_
  refine Seq.p rfl Ev.assign ?_
  refine Seq.p rfl Ev.assign ?_
  refine Seq.nil ?_
  refine JC.ret ?_
  show retQ _ _ _ _ _ _ _ _
  refine ret3 (hp := Part.nil _) (hpost := ?_)
  rfl
end Go.Rx
/- Atoi and Itoa of any short text. -/
namespace Go.Rx
open Go Go.RowKit Go.Lib Go.Proofs.YthpejgmkiomfhaaGreatDoor
set_option linter.unusedVariables false
set_option linter.unusedSimpArgs false
theorem atoi_nat2 {s : ByteArray} {n0 : Int} {be : Bool} (hat : atoiOk s = if be = true then none else some n0) (hs : s.size ≤ 18) :
    natF s = if ((be || decide ((⟨(itoa n0).toArray⟩ : ByteArray) ≠ s)) || decide (n0 < 0)) = true then none else some n0.toNat := by
  have key : ∀ k, natF s = some k → atoiOk s = some (k : Int) ∧ (⟨(itoa (k : Int)).toArray⟩ : ByteArray) = s := by
    intro k hk
    have h1 := natF_lt hk
    rw [natF_eq] at hk
    obtain ⟨h2, h3⟩ := numOf_some hk
    have h4 : k < 10 ^ 18 := Nat.lt_of_lt_of_le h1 (Nat.pow_le_pow_right (by decide) hs)
    have h5 : (10 : Nat) ^ 18 = 1000000000000000000 := by decide
    refine ⟨by rw [h2]; exact atoi_dec (by omega), ?_⟩
    rw [itoa_nonneg, h2]
    rfl
  cases be with
  | true =>
    simp only [if_true] at hat
    simp only [Bool.true_or, if_true]
    cases hk : natF s with
    | none => rfl
    | some k => rw [(key k hk).1] at hat; cases hat
  | false =>
    have hat2 : atoiOk s = some n0 := hat
    simp only [Bool.false_or, Bool.or_eq_true, decide_eq_true_eq]
    by_cases he : (⟨(itoa n0).toArray⟩ : ByteArray) = s ∧ 0 ≤ n0
    · rw [if_neg (by rintro (h | h); exact h he.1; omega)]
      have hb : n0 ≤ 9223372036854775807 := by
        unfold atoiOk at hat2
        cases hq : atoiAll s.data.toList with
        | ok m =>
          rw [hq] at hat2
          simp only [Option.some.injEq] at hat2
          have := atoiAll_bounds hq
          omega
        | _ => rw [hq] at hat2; cases hat2
      have hs2 : s = decS n0.toNat := by
        rw [← he.1]
        unfold decS itoa
        rw [if_neg (by omega)]
      rw [hs2, natF_eq]
      exact numOf_dec (by omega)
    · have hc : ¬ (⟨(itoa n0).toArray⟩ : ByteArray) = s ∨ n0 < 0 := by
        by_cases h1 : (⟨(itoa n0).toArray⟩ : ByteArray) = s
        · exact .inr (by have : ¬ 0 ≤ n0 := fun h => he ⟨h1, h⟩; omega)
        · exact .inl h1
      rw [if_pos hc]
      cases hk : natF s with
      | none => rfl
      | some k =>
        obtain ⟨h1, h2⟩ := key k hk
        rw [h1] at hat2
        cases hat2
        exact absurd ⟨h2, by omega⟩ he
def fieldN (F : List Int) : Option Nat := if firstF 61 F < F.length ∧ firstF 61 F ≤ 4 then natF (strOf (F.take (firstF 61 F))) else none
def fieldV (F : List Int) : ByteArray := strOf (F.drop (firstF 61 F + 1))
def takeF (F : List Int) (first : Bool) (kind : ByteArray) (xs : List Tg) : Int × ByteArray × List Tg :=
  match fieldN F with
  | none => (3, kind, xs)
  | some n =>
    if first = true then (if n ≠ 35 ∨ kindB (fieldV F) = false then (3, kind, xs) else (0, fieldV F, xs))
    else if xs.length = 64 then (2, kind, xs)
    else if refusedF xs ⟨n, fieldV F⟩ ≠ 0 then (refusedF xs ⟨n, fieldV F⟩, kind, xs)
    else (0, kind, xs ++ [⟨n, fieldV F⟩])
end Go.Rx
/- The program takes a field. -/
namespace Go.Rx
open Go Go.RowKit Go.Lib Go.Proofs.YthpejgmkiomfhaaGreatDoor
set_option linter.unusedVariables false
set_option linter.unusedSimpArgs false
def leftF (F : List Int) : ByteArray := if firstF 61 F < F.length then strOf (F.take (firstF 61 F)) else strOf F
def valS (F : List Int) : ByteArray := if firstF 61 F < F.length then fieldV F else ⟨#[]⟩
theorem cutV_eq (F : List Int) : cutV F = .tuple #[.string (leftF F), .string (valS F), .bool (decide (firstF 61 F < F.length))] := by
  unfold cutV leftF valS fieldV
  by_cases h : firstF 61 F < F.length
  · rw [if_pos h, if_pos h, if_pos h, decide_eq_true h]
  · rw [if_neg h, if_neg h, if_neg h, decide_eq_false h]
theorem take_bad {F : List Int} {n0 : Int} {be : Bool} (hat : atoiOk (leftF F) = if be = true then none else some n0)
    (h : (!decide (firstF 61 F < F.length) || be || decide (4 < ((leftF F).size : Int)) || decide ((⟨(itoa n0).toArray⟩ : ByteArray) ≠ leftF F) || decide (n0 < 0)) = true) : fieldN F = none := by
  unfold fieldN
  by_cases hk : firstF 61 F < F.length ∧ firstF 61 F ≤ 4
  · rw [if_pos hk]
    have hl : leftF F = strOf (F.take (firstF 61 F)) := if_pos hk.1
    have hs : (leftF F).size = firstF 61 F := by rw [hl, strOf_size, List.length_take]; omega
    have h2 := atoi_nat2 hat (by omega)
    rw [← hl, h2, if_pos]
    simp only [Bool.or_eq_true, Bool.not_eq_true', decide_eq_true_eq, decide_eq_false_iff_not] at h ⊢
    rcases h with (((h | h) | h) | h) | h
    · exact absurd hk.1 h
    · exact .inl (.inl h)
    · omega
    · exact .inl (.inr h)
    · exact .inr h
  · rw [if_neg hk]
theorem take_ok {F : List Int} {n0 : Int} {be : Bool} (hat : atoiOk (leftF F) = if be = true then none else some n0)
    (h : (!decide (firstF 61 F < F.length) || be || decide (4 < ((leftF F).size : Int)) || decide ((⟨(itoa n0).toArray⟩ : ByteArray) ≠ leftF F) || decide (n0 < 0)) = false) : ∃ k : Nat, n0 = k ∧ fieldN F = some k ∧ valS F = fieldV F := by
  simp only [Bool.or_eq_false_iff, Bool.not_eq_false', decide_eq_true_eq, decide_eq_false_iff_not] at h
  obtain ⟨⟨⟨⟨h1, rfl⟩, h3⟩, h4⟩, h5⟩ := h
  have hl : leftF F = strOf (F.take (firstF 61 F)) := if_pos h1
  have hs : (leftF F).size = firstF 61 F := by rw [hl, strOf_size, List.length_take]; omega
  have h2 := atoi_nat2 hat (by omega)
  refine ⟨n0.toNat, (Int.toNat_of_nonneg (by omega)).symm, ?_, if_pos h1⟩
  unfold fieldN
  rw [if_pos ⟨h1, by omega⟩, ← hl, h2, if_neg]
  simp only [Bool.false_or, Bool.or_eq_true, decide_eq_true_eq]
  rintro (h | h)
  · exact h4 h
  · exact h5 h
abbrev lineC (bk : Nat) (kind : ByteArray) (tv : Value) (size place : Int) : Chunk := .box bk 93 [.string kind, tv, .int .i64 size, .int .i64 place]
abbrev tagsC (tv : Value) (xs : List Tg) : Chunk := .own 74 2 tv xs.length (xs.flatMap Tg.enc)
set_option maxHeartbeats 1000000 in
set_option maxRecDepth 100000 in
theorem textTake {w : World} {bk : Nat} {kind : ByteArray} {A : Option Addr} {c : Nat} {xs : List Tg} {size place : Int} {F : List Int} {first : Bool} (hB : isBytes F) (hl : F.length ≤ 281474976710656) (hx : xs.length ≤ 64) {ws : World} (hL : Laid ws) (hs : Upd ws w [] [lineC bk kind (.slice A xs.length c) size place, tagsC (.slice A xs.length c) xs]) :
    Spec Go.Proofs.Tryz.prog 70 #[.pointer (some ⟨bk, 0, none⟩), .string (strOf F), .bool first] w [lineC bk kind (.slice A xs.length c) size place, tagsC (.slice A xs.length c) xs] (fun u H' => ∃ A' c', u = .int .i64 (takeF F first kind xs).1 ∧
      H' = [lineC bk (takeF F first kind xs).2.1 (.slice A' (takeF F first kind xs).2.2.length c') size place, tagsC (.slice A' (takeF F first kind xs).2.2.length c') (takeF F first kind xs).2.2]) := by
  have ho := hs.own
  have hL2 : ∀ {w' : World} {H : List Chunk}, Upd w w' [lineC bk kind (.slice A xs.length c) size place, tagsC (.slice A xs.length c) xs] H → Laid w' := fun h => hL.upd (Upd.step (F := []) hs h)
  have hsz : (leftF F).size ≤ 281474976710656 := by
    unfold leftF
    split
    · rw [strOf_size, List.length_take]; omega
    · rw [strOf_size]; omega
  have hvz : (valS F).size ≤ 281474976710656 := by
    unfold valS fieldV
    split
    · rw [strOf_size, List.length_drop]; omega
    · exact Nat.zero_le _
  refine Spec.enter (fn := Go.Proofs.Tryz.f70) (n := 86) [.pointer (some ⟨bk, 0, none⟩), .string (strOf F), .bool first] Go.Proofs.Tryz.func70 (by kernel_rfl) rfl Go.Proofs.Tryz.ntmps70 Go.Proofs.Tryz.results70 rfl ho ?_
  refine JC.rs ?_
  refine Seq.p rfl Ev.assign ?_
  refine Seq.nil ?_
  refine JC.rs ?_
  refine Seq.p rfl Ev.move ?_
  refine Seq.callP rfl (fun w hw => (cutV_eq F) ▸ textCut hB hl) ?_
  refine Seq.p rfl Ev.move ?_
  refine Seq.p rfl Ev.extract ?_
  refine Seq.p rfl Ev.extract ?_
  refine Seq.p rfl Ev.extract ?_
  refine Seq.p rfl Ev.assign ?_
  refine Seq.p rfl Ev.assign ?_
  refine Seq.p rfl Ev.assign ?_
  refine Seq.nil ?_
  refine JC.rs ?_
  refine Seq.p rfl Ev.move ?_
  refine Seq.call rfl (fun w hw => textAtoi hsz (hL2 hw)) (Gs := []) (F := _) (by exact List.Perm.refl _) ?_
  rintro _ _ ⟨n0, er, be, rfl, rfl, her, hat, hn0, hn1⟩
  simp only [List.nil_append]
  refine Seq.p rfl Ev.move ?_
  refine Seq.p rfl Ev.extract ?_
  refine Seq.p rfl Ev.extract ?_
  refine Seq.p rfl Ev.assign ?_
  refine Seq.p rfl Ev.assign ?_
  refine Seq.nil ?_
  refine JC.seq ?_
  refine JC.rs ?_
  refine Seq.p rfl Ev.move ?_
  refine Seq.p rfl Ev.not ?_
  refine Seq.p rfl Ev.move ?_
  refine Seq.orG (D := [27, 28, 29, 30]) (d := 27) (t := 30) (k := 3) (hn := fun h27 => ?_) (hx := ?_)
  · repeat (first | refine Seq.gn rfl rfl rfl rfl ?_ | refine Seq.gu rfl rfl rfl ?_)
    refine Seq.p rfl Ev.pickT ?_
    exact Seq.nil ⟨rfl, (by repeat (first | with_reducible exact Off.refl | refine Off.upd ?_ rfl | exact Off.mix | refine Off.mix2 ?_ rfl)), Look.here⟩
  apply Exists.intro
  refine ⟨fun h27 => ?_, fun u30 => ?_⟩
  · try simp only [decide_eq_true_eq, decide_eq_false_iff_not, Bool.and_eq_true, Bool.or_eq_true, Bool.not_eq_true', Bool.not_eq_false', Bool.or_eq_false_iff, Bool.and_eq_false_imp] at h27
    refine Seq.gy rfl rfl rfl ?_
    refine Seq.p rfl Ev.move ?_
    refine Seq.gy rfl rfl rfl ?_
    refine Seq.p rfl (Ev.neErr her (by kernel_rfl)) ?_
    refine Seq.p rfl Ev.pickF ?_
    exact Seq.nil ⟨rfl, (by repeat (first | with_reducible exact Off.refl | refine Off.upd ?_ rfl | exact Off.mix | refine Off.mix2 ?_ rfl)), Look.here⟩
  refine Seq.p rfl Ev.move ?_
  refine Seq.orG (D := [31, 32, 33, 34, 35]) (d := 31) (t := 35) (k := 4) (hn := fun h31 => ?_) (hx := ?_)
  · repeat (first | refine Seq.gn rfl rfl rfl rfl ?_ | refine Seq.gu rfl rfl rfl ?_)
    refine Seq.p rfl Ev.pickT ?_
    exact Seq.nil ⟨rfl, (by repeat (first | with_reducible exact Off.refl | refine Off.upd ?_ rfl | exact Off.mix | refine Off.mix2 ?_ rfl)), Look.here⟩
  apply Exists.intro
  refine ⟨fun h31 => ?_, fun u35 => ?_⟩
  · try simp only [decide_eq_true_eq, decide_eq_false_iff_not, Bool.and_eq_true, Bool.or_eq_true, Bool.not_eq_true', Bool.not_eq_false', Bool.or_eq_false_iff, Bool.and_eq_false_imp] at h31
    refine Seq.gy rfl rfl rfl ?_
    refine Seq.p rfl Ev.move ?_
    refine Seq.gy rfl rfl rfl ?_
    refine Seq.p rfl (Ev.lenStr st.string) ?_
    refine Seq.gy rfl rfl rfl ?_
    refine Seq.p rfl Ev.gt ?_
    refine Seq.p rfl Ev.pickF ?_
    exact Seq.nil ⟨rfl, (by repeat (first | with_reducible exact Off.refl | refine Off.upd ?_ rfl | exact Off.mix | refine Off.mix2 ?_ rfl)), Look.here⟩
  refine Seq.p rfl Ev.move ?_
  refine Seq.orG (D := [36, 37, 38, 39, 40, 41]) (d := 36) (t := 41) (k := 5) (hn := fun h36 => ?_) (hx := ?_)
  · repeat (first | refine Seq.gn rfl rfl rfl rfl ?_ | refine Seq.gu rfl rfl rfl ?_)
    refine Seq.p rfl Ev.pickT ?_
    exact Seq.nil ⟨rfl, (by repeat (first | with_reducible exact Off.refl | refine Off.upd ?_ rfl | exact Off.mix | refine Off.mix2 ?_ rfl)), Look.here⟩
  apply Exists.intro
  refine ⟨fun h36 => ?_, fun u41 => ?_⟩
  · try simp only [decide_eq_true_eq, decide_eq_false_iff_not, Bool.and_eq_true, Bool.or_eq_true, Bool.not_eq_true', Bool.not_eq_false', Bool.or_eq_false_iff, Bool.and_eq_false_imp] at h36
    refine Seq.gy rfl rfl rfl ?_
    refine Seq.p rfl Ev.move ?_
    refine Seq.gy rfl rfl rfl ?_
    refine Seq.callP rfl (fun w hw => textItoa hn0 hn1 (hL2 hw)) ?_
    refine Seq.gy rfl rfl rfl ?_
    refine Seq.p rfl Ev.move ?_
    refine Seq.gy rfl rfl rfl ?_
    refine Seq.p rfl Ev.neStr ?_
    refine Seq.p rfl Ev.pickF ?_
    exact Seq.nil ⟨rfl, (by repeat (first | with_reducible exact Off.refl | refine Off.upd ?_ rfl | exact Off.mix | refine Off.mix2 ?_ rfl)), Look.here⟩
  refine Seq.p rfl Ev.move ?_
  refine Seq.orG (D := [42, 43, 44, 45]) (d := 42) (t := 45) (k := 3) (hn := fun h42 => ?_) (hx := ?_)
  · repeat (first | refine Seq.gn rfl rfl rfl rfl ?_ | refine Seq.gu rfl rfl rfl ?_)
    refine Seq.p rfl Ev.pickT ?_
    exact Seq.nil ⟨rfl, (by repeat (first | with_reducible exact Off.refl | refine Off.upd ?_ rfl | exact Off.mix | refine Off.mix2 ?_ rfl)), Look.here⟩
  apply Exists.intro
  refine ⟨fun h42 => ?_, fun u45 => ?_⟩
  · try simp only [decide_eq_true_eq, decide_eq_false_iff_not, Bool.and_eq_true, Bool.or_eq_true, Bool.not_eq_true', Bool.not_eq_false', Bool.or_eq_false_iff, Bool.and_eq_false_imp] at h42
    refine Seq.gy rfl rfl rfl ?_
    refine Seq.p rfl Ev.move ?_
    refine Seq.gy rfl rfl rfl ?_
    refine Seq.p rfl Ev.lt ?_
    refine Seq.p rfl Ev.pickF ?_
    exact Seq.nil ⟨rfl, (by repeat (first | with_reducible exact Off.refl | refine Off.upd ?_ rfl | exact Off.mix | refine Off.mix2 ?_ rfl)), Look.here⟩
  refine Seq.nil ?_
  first | refine JC.c (ht := fun c45 => ?_) (hf := fun c45 => ?_) | refine JC.cb (ht := fun c45 => ?_) (hf := fun c45 => ?_)
  · -- then_t45
    have hf := take_bad hat c45
    have e : takeF F first kind xs = (3, kind, xs) := by unfold takeF; rw [hf]
    refine JC.rs ?_
    refine Seq.p rfl Ev.assign ?_
    refine Seq.nil ?_
    refine JC.ret ?_
    show retQ _ _ _ _ _ _ _ _
    refine ret1 (H' := [lineC bk kind (.slice A xs.length c) size place, tagsC (.slice A xs.length c) xs]) (hp := Part.refl _) (hpost := ?_)
    rw [e]
    exact ⟨A, c, rfl, rfl⟩
  · -- else_t45
    obtain ⟨k, rfl, hf, hv⟩ := take_ok hat c45
    refine JC.skip ?_
    refine JC.seq ?_
    refine JC.rs ?_
    refine Seq.p rfl Ev.move ?_
    refine Seq.nil ?_
    first | refine JC.c (ht := fun c46 => ?_) (hf := fun c46 => ?_) | refine JC.cb (ht := fun c46 => ?_) (hf := fun c46 => ?_)
    · -- then_t46
      refine JC.seq ?_
      refine JC.rs ?_
      refine Seq.p rfl Ev.move ?_
      refine Seq.p rfl Ev.ne ?_
      refine Seq.p rfl Ev.move ?_
      refine Seq.orG (D := [49, 50, 51, 52, 53]) (d := 49) (t := 53) (k := 4) (hn := fun h49 => ?_) (hx := ?_)
      · repeat (first | refine Seq.gn rfl rfl rfl rfl ?_ | refine Seq.gu rfl rfl rfl ?_)
        refine Seq.p rfl Ev.pickT ?_
        exact Seq.nil ⟨rfl, (by repeat (first | with_reducible exact Off.refl | refine Off.upd ?_ rfl | exact Off.mix | refine Off.mix2 ?_ rfl)), Look.here⟩
      apply Exists.intro
      refine ⟨fun h49 => ?_, fun u53 => ?_⟩
      · try simp only [decide_eq_true_eq, decide_eq_false_iff_not, Bool.and_eq_true, Bool.or_eq_true, Bool.not_eq_true', Bool.not_eq_false', Bool.or_eq_false_iff, Bool.and_eq_false_imp] at h49
        refine Seq.gy rfl rfl rfl ?_
        refine Seq.p rfl Ev.move ?_
        refine Seq.gy rfl rfl rfl ?_
        refine Seq.callP rfl (fun w hw => textIsKind hvz) ?_
        refine Seq.gy rfl rfl rfl ?_
        refine Seq.p rfl Ev.not ?_
        refine Seq.p rfl Ev.pickF ?_
        exact Seq.nil ⟨rfl, (by repeat (first | with_reducible exact Off.refl | refine Off.upd ?_ rfl | exact Off.mix | refine Off.mix2 ?_ rfl)), Look.here⟩
      refine Seq.nil ?_
      first | refine JC.c (ht := fun c53 => ?_) (hf := fun c53 => ?_) | refine JC.cb (ht := fun c53 => ?_) (hf := fun c53 => ?_)
      · -- then_t53
        refine JC.rs ?_
        refine Seq.p rfl Ev.assign ?_
        refine Seq.nil ?_
        refine JC.ret ?_
        show retQ _ _ _ _ _ _ _ _
        refine ret1 (H' := [lineC bk kind (.slice A xs.length c) size place, tagsC (.slice A xs.length c) xs]) (hp := Part.refl _) (hpost := ?_)
        have e : takeF F first kind xs = (3, kind, xs) := by unfold takeF; rw [hf]; simp only; rw [if_pos c46, if_pos]; rw [hv] at c53; simp only [Bool.or_eq_true, Bool.not_eq_true', decide_eq_true_eq] at c53; rcases c53 with h | h; exact .inl (by omega); exact .inr h
        rw [e]
        exact ⟨A, c, rfl, rfl⟩
      · -- else_t53
        refine JC.skip ?_
        refine JC.rs ?_
        refine Seq.p rfl Ev.move ?_
        refine Seq.p rfl Ev.move ?_
        refine Seq.p rfl Ev.nilP ?_
        refine Seq.p rfl (Ev.faB fd.text_line_0) ?_
        refine Seq.storeN [_, _, _, _] sz.string (k := ?_)
        refine Seq.nil ?_
        refine JC.rs ?_
        refine Seq.p rfl Ev.assign ?_
        refine Seq.nil ?_
        refine JC.ret ?_
        show retQ _ _ _ _ _ _ _ _
        refine ret1 (H' := [lineC bk (valS F) (.slice A xs.length c) size place, tagsC (.slice A xs.length c) xs]) (hp := Part.refl _) (hpost := ?_)
        have e : takeF F first kind xs = (0, fieldV F, xs) := by unfold takeF; rw [hf]; simp only; rw [if_pos c46, if_neg]; rw [hv] at c53; simp only [Bool.or_eq_false_iff, Bool.not_eq_false', decide_eq_false_iff_not] at c53; rintro (h | h); exact c53.1 (by omega); rw [c53.2] at h; cases h
        rw [e, hv]
        exact ⟨A, c, rfl, rfl⟩
    · -- else_t46
      refine JC.skip ?_
      refine JC.rs ?_
      refine Seq.p rfl Ev.move ?_
      refine Seq.p rfl Ev.move ?_
      refine Seq.p rfl (Ev.buildN [_, _] pl.api_Tag z.api_Tag) ?_
      refine Seq.alloc (cs := [_, _]) (hz := z.api_Tag) (k := ?_); intro b12
      refine Seq.storeN [_, _] sz.api_Tag (k := ?_)
      refine Seq.nil ?_
      refine JC.seq ?_
      refine JC.rs ?_
      refine Seq.p rfl Ev.move ?_
      refine Seq.p rfl Ev.nilP ?_
      refine Seq.p rfl (Ev.faB fd.text_line_1) ?_
      refine Seq.p rfl (Ev.ldB sc.sl_api_Tag) ?_
      refine Seq.p rfl (Ev.lenSl sl.sl_api_Tag (hr := RAt.own (enc := Tg.enc) (xs := xs))) ?_
      refine Seq.p rfl Ev.eq ?_
      refine Seq.nil ?_
      first | refine JC.c (ht := fun c66 => ?_) (hf := fun c66 => ?_) | refine JC.cb (ht := fun c66 => ?_) (hf := fun c66 => ?_)
      · -- then_t66
        refine JC.rs ?_
        refine Seq.p rfl Ev.assign ?_
        refine Seq.nil ?_
        refine JC.ret ?_
        show retQ _ _ _ _ _ _ _ _
        refine ret1 (H' := [lineC bk kind (.slice A xs.length c) size place, tagsC (.slice A xs.length c) xs]) (hp := Part.skip (Part.refl _)) (hpost := ?_)
        have e : takeF F first kind xs = (2, kind, xs) := by unfold takeF; rw [hf]; simp only; rw [if_neg (by simp [c46]), if_pos (by omega)]
        rw [e]
        exact ⟨A, c, rfl, rfl⟩
      · -- else_t66
        refine JC.skip ?_
        refine JC.seq ?_
        refine JC.qs mixed (by kernel_rfl) ?_
        refine Qui.p rfl Ev.move ?_
        refine Qui.p rfl Ev.nilP ?_
        refine Qui.p rfl (Ev.faB fd.text_line_1) ?_
        refine Qui.p rfl (Ev.ldB sc.sl_api_Tag) ?_
        refine Qui.p rfl (Ev.ldBA ag.api_Tag) ?_
        refine Qui.call rfl (fun w hw => textRefused (t := ⟨(k : Int), valS F⟩) (RAt.up (RAt.own (enc := Tg.enc) (xs := xs)) hw) hvz) ?_
        refine Qui.p rfl Ev.assign ?_
        refine Qui.nil ?_
        refine JC.rs ?_
        refine Seq.p rfl Ev.move ?_
        refine Seq.p rfl Ev.ne ?_
        refine Seq.nil ?_
        first | refine JC.c (ht := fun c74 => ?_) (hf := fun c74 => ?_) | refine JC.cb (ht := fun c74 => ?_) (hf := fun c74 => ?_)
        · -- then_t74
          refine JC.rs ?_
          refine Seq.p rfl Ev.move ?_
          refine Seq.p rfl Ev.assign ?_
          refine Seq.nil ?_
          refine JC.ret ?_
          show retQ _ _ _ _ _ _ _ _
          refine ret1 (H' := [lineC bk kind (.slice A xs.length c) size place, tagsC (.slice A xs.length c) xs]) (hp := Part.skip (Part.refl _)) (hpost := ?_)
          have e : takeF F first kind xs = (refusedF xs ⟨k, fieldV F⟩, kind, xs) := by unfold takeF; rw [hf]; simp only; rw [if_neg (by simp [c46]), if_neg (by omega), if_pos (by rw [hv] at c74; exact c74)]
          rw [e, hv]
          exact ⟨A, c, rfl, rfl⟩
        · -- else_t74
          refine JC.skip ?_
          refine JC.asP ([.box b12 74 [.int .i64 (k : Int), .string (valS F)]]) mixed (by repeat (first | exact Part.refl _ | exact Part.nil _ | apply Part.here | apply Part.skip)) ?_
          refine Any.p 0 rfl (by kernel_rfl) (by kernel_rfl) (by kernel_rfl) rfl Ev.move ?_
          refine Any.p 1 rfl (by kernel_rfl) (by kernel_rfl) (by kernel_rfl) rfl Ev.move ?_
          refine Any.p 2 rfl (by kernel_rfl) (by kernel_rfl) (by kernel_rfl) rfl Ev.nilP ?_
          refine Any.p 3 rfl (by kernel_rfl) (by kernel_rfl) (by kernel_rfl) rfl (Ev.faB fd.text_line_1) ?_
          refine Any.p 5 rfl (by kernel_rfl) (by kernel_rfl) (by kernel_rfl) rfl (Ev.ldBA ag.api_Tag) ?_
          refine Any.two 4 6 rfl rfl (by kernel_rfl) ?_ ?_
          · -- first 4
            refine Seq.p rfl (Ev.ldB sc.sl_api_Tag) ?_
            refine Seq.nil ⟨(by repeat (first | exact Part.refl _ | exact Part.nil _ | apply Part.here | apply Part.skip)), ?_⟩
            refine Any.one 6 rfl (by kernel_rfl) ?_
            refine Seq.buildSlN [_, _] (hsl := sl.sl_api_Tag) (hz := z.api_Tag) (k := ?_); intro b82
            refine Seq.nil ⟨(by repeat (first | exact Part.refl _ | exact Part.nil _ | apply Part.here | apply Part.skip)), ?_⟩
            refine Any.one 7 rfl (by kernel_rfl) ?_
            refine Seq.append (hsl := sl.sl_api_Tag) (he := el.api_Tag) (hsrc := (fun w' hw => Src.box (hl := by rfl) (hc := fun q u hu => hu) sl.sl_api_Tag At.z hw)) (k := ?_); intro A83 c83
            refine Seq.nil ⟨(by repeat (first | exact Part.refl _ | exact Part.nil _ | apply Part.here | apply Part.skip)), ?_⟩
            refine Any.p 8 rfl (by kernel_rfl) (by kernel_rfl) (by kernel_rfl) rfl Ev.nilP ?_
            refine Any.p 9 rfl (by kernel_rfl) (by kernel_rfl) (by kernel_rfl) rfl (Ev.faB fd.text_line_1) ?_
            refine Any.one 10 rfl (by kernel_rfl) ?_
            refine Seq.storeN [_, _, _, _] sz.sl_api_Tag (k := ?_)
            refine Seq.nil ⟨(by repeat (first | exact Part.refl _ | exact Part.nil _ | apply Part.here | apply Part.skip)), ?_⟩
            refine Any.done (by kernel_rfl) ?_
            refine JC.rs ?_
            refine Seq.p rfl Ev.assign ?_
            refine Seq.nil ?_
            refine JC.ret ?_
            show retQ _ _ _ _ _ _ _ _
            refine ret1 (H' := [lineC bk kind (.slice A83 (xs.length + 1) c83) size place, .own 74 2 (.slice A83 (xs.length + 1) c83) (xs.length + 1) (xs.flatMap Tg.enc ++ [.int .i64 (k : Int), .string (valS F)])]) (hp := Part.skip (Part.skip (Part.refl _))) (hpost := ?_)
            have e : takeF F first kind xs = (0, kind, xs ++ [⟨k, fieldV F⟩]) := by unfold takeF; rw [hf]; simp only; rw [if_neg (by simp [c46]), if_neg (by omega), if_neg (by rw [hv] at c74; exact c74)]
            rw [e, hv]
            refine ⟨A83, c83, rfl, ?_⟩
            simp [tagsC, Tg.enc, List.flatMap_append]
          · -- first 6
            refine Seq.buildSlN [_, _] (hsl := sl.sl_api_Tag) (hz := z.api_Tag) (k := ?_); intro b82
            refine Seq.nil ⟨(by repeat (first | exact Part.refl _ | exact Part.nil _ | apply Part.here | apply Part.skip)), ?_⟩
            refine Any.one 4 rfl (by kernel_rfl) ?_
            refine Seq.p rfl (Ev.ldB sc.sl_api_Tag) ?_
            refine Seq.nil ⟨(by repeat (first | exact Part.refl _ | exact Part.nil _ | apply Part.here | apply Part.skip)), ?_⟩
            refine Any.one 7 rfl (by kernel_rfl) ?_
            refine Seq.append (hsl := sl.sl_api_Tag) (he := el.api_Tag) (hsrc := (fun w' hw => Src.box (hl := by rfl) (hc := fun q u hu => hu) sl.sl_api_Tag At.z hw)) (k := ?_); intro A83 c83
            refine Seq.nil ⟨(by repeat (first | exact Part.refl _ | exact Part.nil _ | apply Part.here | apply Part.skip)), ?_⟩
            refine Any.p 8 rfl (by kernel_rfl) (by kernel_rfl) (by kernel_rfl) rfl Ev.nilP ?_
            refine Any.p 9 rfl (by kernel_rfl) (by kernel_rfl) (by kernel_rfl) rfl (Ev.faB fd.text_line_1) ?_
            refine Any.one 10 rfl (by kernel_rfl) ?_
            refine Seq.storeN [_, _, _, _] sz.sl_api_Tag (k := ?_)
            refine Seq.nil ⟨(by repeat (first | exact Part.refl _ | exact Part.nil _ | apply Part.here | apply Part.skip)), ?_⟩
            refine Any.done (by kernel_rfl) ?_
            refine JC.rs ?_
            refine Seq.p rfl Ev.assign ?_
            refine Seq.nil ?_
            refine JC.ret ?_
            show retQ _ _ _ _ _ _ _ _
            refine ret1 (H' := [lineC bk kind (.slice A83 (xs.length + 1) c83) size place, .own 74 2 (.slice A83 (xs.length + 1) c83) (xs.length + 1) (xs.flatMap Tg.enc ++ [.int .i64 (k : Int), .string (valS F)])]) (hp := Part.skip (Part.skip (Part.refl _))) (hpost := ?_)
            have e : takeF F first kind xs = (0, kind, xs ++ [⟨k, fieldV F⟩]) := by unfold takeF; rw [hf]; simp only; rw [if_neg (by simp [c46]), if_neg (by omega), if_neg (by rw [hv] at c74; exact c74)]
            rw [e, hv]
            refine ⟨A83, c83, rfl, ?_⟩
            simp [tagsC, Tg.enc, List.flatMap_append]
end Go.Rx
/- bytes.IndexByte at a slice that is read: the first place of a byte. -/
namespace Go.Rx
open Go Go.RowKit Go.Proofs.YthpejgmkiomfhaaGreatDoor
set_option linter.unusedVariables false
theorem textIndexByte {w : World} {A : Option Addr} {c : Nat} {l : List Int} (hr : RSl byteEnc 1 w [] (.slice A l.length c) l) (hne : l ≠ []) (hB : isBytes l) :
    Spec Go.Proofs.Tryz.prog 69 #[.slice A l.length c, .int .u8 1] w [] (fun u _ => u = .int .i64 (if firstF 1 l < l.length then (firstF 1 l : Int) else -1)) := by
  obtain ⟨A', c', hv, _, hA⟩ := hr.shape
  cases hv
  cases A with
  | none => exact absurd (hA rfl) hne
  | some a =>
    have hc : ∀ i, i < l.length → w.cell? (a.add i) = some (.int .u8 (l.getD i 0)) := by
      intro i hi
      have h1 := (hr.cell i hi 0 (.int .u8 l[i]!) rfl).1
      have e1 : l.getD i 0 = l[i]! := by rw [getElem!_pos l i hi]; simp [List.getD, hi]
      rw [e1]
      simpa [sbase] using h1
    refine spec_of_below ⟨Go.Proofs.Tryz.f69, Go.Proofs.Tryz.func69, by kernel_rfl, rfl⟩ ((Go.Proofs.Tryz.bytes_IndexByte_at a l.length c l 1 w rfl hc).mono ?_)
    rintro e w' ⟨rfl, rfl⟩
    refine ⟨?_, Below.refl _ _⟩
    have h2 := indexByte_first (c := 1) hB
    have e2 : Lib.bytesOf l = l.map fun n => UInt8.ofNat n.toNat := rfl
    rw [e2]
    have e3 : (Int.toNat 1).toUInt8 = (1 : UInt8) := rfl
    rw [e3, h2]
    rfl
end Go.Rx
/- What a body's fields say, and what a line is read as: plain functions. -/
namespace Go.Rx
open Go Go.RowKit Go.Lib Go.Proofs.YthpejgmkiomfhaaGreatDoor
set_option linter.unusedVariables false
set_option linter.unusedSimpArgs false
def fieldAt (l : List Int) (p : Nat) : List Int := (l.drop p).take (firstF 1 (l.drop p))
inductive PartA
  | bad (p : Nat) (e : Int)
  | ok (kind : ByteArray) (xs : List Tg)
def partsF (l : List Int) (from_ to p : Nat) (kind : ByteArray) (xs : List Tg) : PartA :=
  if p < to then
    if (takeF (fieldAt l p) (decide (p = from_)) kind xs).1 ≠ 0 then .bad p (takeF (fieldAt l p) (decide (p = from_)) kind xs).1
    else partsF l from_ to (p + firstF 1 (l.drop p) + 1) (takeF (fieldAt l p) (decide (p = from_)) kind xs).2.1 (takeF (fieldAt l p) (decide (p = from_)) kind xs).2.2
  else .ok kind xs
termination_by to - p
theorem partsF_end {l : List Int} {f to p : Nat} {kind : ByteArray} {xs : List Tg} (h : ¬ p < to) : partsF l f to p kind xs = .ok kind xs := by
  rw [partsF, if_neg h]
theorem partsF_bad {l : List Int} {f to p : Nat} {kind kind' : ByteArray} {xs xs' : List Tg} {e : Int} (h : p < to) (ht : takeF (fieldAt l p) (decide (p = f)) kind xs = (e, kind', xs')) (he : e ≠ 0) : partsF l f to p kind xs = .bad p e := by
  rw [partsF, if_pos h, ht]
  exact if_pos he
theorem partsF_step {l : List Int} {f to p : Nat} {kind kind' : ByteArray} {xs xs' : List Tg} (h : p < to) (ht : takeF (fieldAt l p) (decide (p = f)) kind xs = (0, kind', xs')) : partsF l f to p kind xs = partsF l f to (p + firstF 1 (l.drop p) + 1) kind' xs' := by
  rw [partsF, if_pos h, ht]
  exact if_neg (fun h => h rfl)
theorem partsF_why {l : List Int} {f to : Nat} {q : Nat} {e : Int} : ∀ {p : Nat} {kind : ByteArray} {xs : List Tg}, partsF l f to p kind xs = .bad q e → e ≠ 0 := by
  intro p kind xs h
  generalize hd : to - p = d
  induction d using Nat.strongRecOn generalizing p kind xs with
  | _ d ih =>
    rw [partsF] at h
    split at h
    · split at h
      · rename_i h2
        cases h
        exact h2
      · exact ih (to - (p + firstF 1 (l.drop p) + 1)) (by omega) h rfl
    · cases h
theorem takeF_len {F : List Int} {first : Bool} {kind : ByteArray} {xs : List Tg} (h : xs.length ≤ 64) : (takeF F first kind xs).2.2.length ≤ 64 := by
  unfold takeF
  split
  · exact h
  · split
    · split <;> exact h
    · split
      · exact h
      · split
        · exact h
        · simp
          omega
theorem firstF_hit {c : Int} : ∀ {l : List Int} {i : Nat}, i < l.length → l[i]! = c → firstF c l ≤ i
  | [], i, h, _ => by simp at h
  | x :: r, 0, h, hc => by
    have : x = c := by simpa using hc
    unfold firstF
    rw [if_pos this]
    exact Nat.le_refl _
  | x :: r, i + 1, h, hc => by
    unfold firstF
    split
    · exact Nat.zero_le _
    · have := firstF_hit (l := r) (i := i) (by simpa using h) (by simpa using hc)
      omega
theorem firstF_get {c : Int} : ∀ {l : List Int}, firstF c l < l.length → l[firstF c l]! = c
  | [], h => by simp at h
  | x :: r, h => by
    unfold firstF at h ⊢
    split
    · rename_i hx
      simpa using hx
    · rename_i hx
      rw [if_neg hx] at h
      have := firstF_get (l := r) (by simpa using h)
      simpa using this
theorem get_drop {l : List Int} {p j : Nat} (h : p + j < l.length) : (l.drop p)[j]! = l[p + j]! := by
  rw [getElem!_pos l (p + j) h, getElem!_pos (l.drop p) j (by rw [List.length_drop]; omega)]
  simp
theorem first_in {l : List Int} {to p : Nat} (h : p < to) (ht : to ≤ l.length) (h1 : l[to - 1]! = 1) : p + firstF 1 (l.drop p) < to := by
  have h2 : firstF 1 (l.drop p) ≤ to - 1 - p := firstF_hit (by rw [List.length_drop]; omega) (by rw [get_drop (by omega), show p + (to - 1 - p) = to - 1 by omega]; exact h1)
  omega
structure ReadA where
  kind : ByteArray
  tags : List Tg
  place : Int
  why : Int
  size : Nat
def badA (a c : Int) : ReadA := ⟨⟨#[]⟩, [], a, c, 0⟩
def partA (s : Nat) : PartA → ReadA
  | .bad p e => ⟨⟨#[]⟩, [], p, e, s⟩
  | .ok kind xs => ⟨kind, xs, (s : Nat), 0, s⟩
def readF (l : List Int) : ReadA :=
  match headF l with
  | .bad a c => badA a c
  | .ok f k =>
    if 2048 < f + k + 7 then badA 10 2
    else if l.length < f + k + 7 then badA l.length 20
    else if trailB ((l.drop (f + k)).take 7) = false ∨ k = 0 ∨ l[f + k - 1]! ≠ 1 then badA (f + k : Nat) 32
    else if (l.drop (f + k)).take 7 ≠ lastL (l.take (f + k)) then badA (f + k : Nat) 33
    else partA (f + k + 7) (partsF l f (f + k) f ⟨#[]⟩ [])
end Go.Rx
/- The document's fields of a body. -/
namespace Go.Rx
open Go Go.RowKit Go.Lib Go.Proofs.YthpejgmkiomfhaaGreatDoor
set_option linter.unusedVariables false
set_option linter.unusedSimpArgs false
abbrev ansC (bk : Nat) (kind : ByteArray) (tv : Value) (at_ why : Int) (whole : Bool) (size : Int) : Chunk := .box bk 97 [.string kind, tv, .int .i64 at_, .int .i64 why, .bool whole, .int .i64 size]
def ansV (a : ReadA) (A : Option Addr) (c : Nat) (whole : Bool) (size : Int) : Value := .agg #[.string a.kind, .slice A a.tags.length c, .int .i64 a.place, .int .i64 a.why, .bool whole, .int .i64 size]
def partsA : PartA → ReadA
  | .bad p e => ⟨⟨#[]⟩, [], p, e, 0⟩
  | .ok kind xs => ⟨kind, xs, 0, 0, 0⟩
theorem fieldAt_len {l : List Int} {p : Nat} : (fieldAt l p).length = firstF 1 (l.drop p) := by
  have := firstF_le 1 (l.drop p)
  unfold fieldAt
  rw [List.length_take]
  omega
theorem takeF_none {F : List Int} {first : Bool} {kind : ByteArray} {xs : List Tg} (h : fieldN F = none) : takeF F first kind xs = (3, kind, xs) := by
  unfold takeF
  rw [h]
theorem takeF_first {F : List Int} {kind : ByteArray} {xs : List Tg} {n : Nat} (h : fieldN F = some n) : takeF F true kind xs = if n ≠ 35 ∨ kindB (fieldV F) = false then (3, kind, xs) else (0, fieldV F, xs) := by
  unfold takeF
  rw [h]
  rfl
theorem takeF_next {F : List Int} {kind : ByteArray} {xs : List Tg} {n : Nat} (h : fieldN F = some n) : takeF F false kind xs = if xs.length = 64 then (2, kind, xs)
    else if refusedF xs ⟨n, fieldV F⟩ ≠ 0 then (refusedF xs ⟨n, fieldV F⟩, kind, xs) else (0, kind, xs ++ [⟨n, fieldV F⟩]) := by
  unfold takeF
  rw [h]
  rfl
abbrev nilC : Chunk := .own 74 2 (.slice none 0 0) 0 []
end Go.Rx
/- The document's reading of a line. -/
namespace Go.Rx
open Go Go.RowKit Go.Lib Go.Proofs.YthpejgmkiomfhaaGreatDoor
set_option linter.unusedVariables false
set_option linter.unusedSimpArgs false
theorem readF_bad {l : List Int} {a c : Int} (h : headF l = .bad a c) : readF l = badA a c := by unfold readF; rw [h]
theorem readF_long {l : List Int} {f k : Nat} (h : headF l = .ok f k) (h1 : 2048 < f + k + 7) : readF l = badA 10 2 := by unfold readF; rw [h]; exact if_pos h1
theorem readF_short {l : List Int} {f k : Nat} (h : headF l = .ok f k) (h1 : ¬ 2048 < f + k + 7) (h2 : l.length < f + k + 7) : readF l = badA l.length 20 := by
  unfold readF; rw [h]; simp only; rw [if_neg h1, if_pos h2]
theorem readF_body {l : List Int} {f k : Nat} (h : headF l = .ok f k) (h1 : ¬ 2048 < f + k + 7) (h2 : ¬ l.length < f + k + 7)
    (h3 : trailB ((l.drop (f + k)).take 7) = false ∨ k = 0 ∨ l[f + k - 1]! ≠ 1) : readF l = badA (f + k : Nat) 32 := by
  unfold readF; rw [h]; simp only; rw [if_neg h1, if_neg h2, if_pos h3]
theorem readF_trail {l : List Int} {f k : Nat} (h : headF l = .ok f k) (h1 : ¬ 2048 < f + k + 7) (h2 : ¬ l.length < f + k + 7)
    (h3 : ¬ (trailB ((l.drop (f + k)).take 7) = false ∨ k = 0 ∨ l[f + k - 1]! ≠ 1)) (h4 : (l.drop (f + k)).take 7 ≠ lastL (l.take (f + k))) : readF l = badA (f + k : Nat) 33 := by
  unfold readF; rw [h]; simp only; rw [if_neg h1, if_neg h2, if_neg h3, if_pos h4]
theorem readF_parts {l : List Int} {f k : Nat} (h : headF l = .ok f k) (h1 : ¬ 2048 < f + k + 7) (h2 : ¬ l.length < f + k + 7)
    (h3 : ¬ (trailB ((l.drop (f + k)).take 7) = false ∨ k = 0 ∨ l[f + k - 1]! ≠ 1)) (h4 : ¬ (l.drop (f + k)).take 7 ≠ lastL (l.take (f + k))) : readF l = partA (f + k + 7) (partsF l f (f + k) f ⟨#[]⟩ []) := by
  unfold readF; rw [h]; simp only; rw [if_neg h1, if_neg h2, if_neg h3, if_neg h4]
theorem head_from {l : List Int} {f k : Nat} (h : headF l = .ok f k) : 11 ≤ f ∧ f ≤ 16 ∧ k < 10000 := by
  have hg := dgF_le l 5 0
  unfold headF at h
  split at h
  · split at h <;> cases h
  · split at h
    · cases h
    · split at h
      · rename_i q hq
        split at h
        · cases h
        · rename_i hn
          cases h
          refine ⟨by omega, by omega, ?_⟩
          have h3 := natF_lt hq
          rw [strOf_size] at h3
          have h4 : ((l.drop 10).take (dgF l 5 0)).length ≤ 4 := by rw [List.length_take]; omega
          exact Nat.lt_of_lt_of_le h3 (Nat.pow_le_pow_right (by decide) h4)
      · cases h
theorem head_why {l : List Int} {a c : Int} (h : headF l = .bad a c) : c ≠ 0 := by
  unfold headF at h
  split at h
  · split at h <;> (cases h; decide)
  · split at h
    · cases h; decide
    · split at h
      · split at h
        · cases h; decide
        · cases h
      · cases h; decide
theorem isBytes_drop {l : List Int} {n : Nat} (h : isBytes l) : isBytes (l.drop n) := fun x hx => h x (List.mem_of_mem_drop hx)
theorem isBytes_take {l : List Int} {n : Nat} (h : isBytes l) : isBytes (l.take n) := fun x hx => h x (List.mem_of_mem_take hx)
theorem isBytes_last (l : List Int) : isBytes (lastL l) := by
  have hs := sumB_range l
  intro x hx
  simp only [lastL, threeL, List.cons_append, List.nil_append, List.mem_cons, List.not_mem_nil, or_false] at hx
  rcases hx with h | h | h | h | h | h | h <;> omega
theorem trailB_seven (a b c d e f g : Int) : trailB [a, b, c, d, e, f, g] = ((digit d && (digit e && digit f) && (decide (a = 49) && (decide (b = 48) && decide (c = 61)))) && decide (g = 1)) := by
  unfold trailB
  rw [Bool.eq_iff_iff]
  simp
end Go.Rx
/- The program's reading of a line. -/
namespace Go.Rx
open Go Go.RowKit Go.Lib Go.Proofs.YthpejgmkiomfhaaGreatDoor
set_option linter.unusedVariables false
set_option linter.unusedSimpArgs false
def lineA (r : ReadA) (A : Option Addr) (c : Nat) : Value := .agg #[.string r.kind, .slice A r.tags.length c, .int .i64 (r.size : Int), .int .i64 (if r.why = 0 then 0 else r.place)]
theorem frameV_form (l : List Int) : ∃ sz0 pl fr to c, frameV l (headF l) = .tuple #[lineV sz0 pl, .int .i64 fr, .int .i64 to, .int .i64 c] ∧
    ((c ≠ 0 ∧ sz0 = 0 ∧ readF l = badA pl c) ∨ (c = 0 ∧ ∃ f k : Nat, headF l = .ok f k ∧ ¬ 2048 < f + k + 7 ∧ ¬ l.length < f + k + 7 ∧ sz0 = ((f + k + 7 : Nat) : Int) ∧ pl = 0 ∧ fr = (f : Int) ∧ to = ((f + k : Nat) : Int) ∧ 11 ≤ f ∧ f ≤ 16 ∧ k < 10000)) := by
  cases h : headF l with
  | bad a c => exact ⟨0, a, 0, 0, c, rfl, .inl ⟨head_why h, rfl, readF_bad h⟩⟩
  | ok f k =>
    rw [frameV_ok]
    by_cases h1 : 2048 < f + k + 7
    · rw [if_pos h1]
      exact ⟨0, 10, 0, 0, 2, rfl, .inl ⟨by decide, rfl, readF_long h h1⟩⟩
    · rw [if_neg h1]
      by_cases h2 : l.length < f + k + 7
      · rw [if_pos h2]
        exact ⟨0, l.length, 0, 0, 20, rfl, .inl ⟨by decide, rfl, readF_short h h1 h2⟩⟩
      · rw [if_neg h2]
        exact ⟨_, 0, _, _, 0, rfl, .inr ⟨rfl, f, k, rfl, h1, h2, rfl, rfl, rfl, rfl, head_from h⟩⟩
theorem readF_cases (l : List Int) : (∃ a c, readF l = badA a c ∧ c ≠ 0) ∨ ∃ f k, headF l = .ok f k ∧ readF l = partA (f + k + 7) (partsF l f (f + k) f ⟨#[]⟩ []) := by
  unfold readF
  split
  · rename_i a c h
    exact .inl ⟨a, c, rfl, head_why h⟩
  · rename_i f k h
    split
    · exact .inl ⟨_, _, rfl, by decide⟩
    · split
      · exact .inl ⟨_, _, rfl, by decide⟩
      · split
        · exact .inl ⟨_, _, rfl, by decide⟩
        · split
          · exact .inl ⟨_, _, rfl, by decide⟩
          · exact .inr ⟨f, k, h, rfl⟩
theorem readF_bad_form {l : List Int} (h : (readF l).why ≠ 0) : (readF l).kind = ⟨#[]⟩ ∧ (readF l).tags = [] := by
  rcases readF_cases l with ⟨a, c, h1, _⟩ | ⟨f, k, _, h1⟩
  · rw [h1]; exact ⟨rfl, rfl⟩
  · rw [h1] at h ⊢
    cases hp : partsF l f (f + k) f ⟨#[]⟩ [] with
    | bad p e => exact ⟨rfl, rfl⟩
    | ok kind xs => rw [hp] at h; exact absurd rfl h
theorem readF_ok_place {l : List Int} (h : (readF l).why = 0) : (readF l).place = ((readF l).size : Int) := by
  rcases readF_cases l with ⟨a, c, h1, h2⟩ | ⟨f, k, _, h1⟩
  · rw [h1] at h; exact absurd h h2
  · rw [h1] at h ⊢
    cases hp : partsF l f (f + k) f ⟨#[]⟩ [] with
    | bad p e => rw [hp] at h; exact absurd h (partsF_why hp)
    | ok kind xs => rfl
set_option maxHeartbeats 4000000 in
set_option maxRecDepth 100000 in
theorem textRead {w : World} {v : Value} {l : List Int} (hr : RSl byteEnc 1 w [] v l) (hB : isBytes l) (hl : l.length ≤ 281474976710656) (hL : Laid w) :
    Spec Go.Proofs.Tryz.prog 45 #[v] w [] (fun u H' => ∃ A c, u = .tuple #[lineA (readF l) A c, .int .i64 (readF l).why] ∧ H' = [tagsC (.slice A (readF l).tags.length c) (readF l).tags]) := by
  obtain ⟨sz0, pl, fr, to, c0, hfv, hfacts⟩ := frameV_form l
  refine Spec.enter (fn := Go.Proofs.Tryz.f45) (n := 88) [v] Go.Proofs.Tryz.func45 (by kernel_rfl) rfl Go.Proofs.Tryz.ntmps45 Go.Proofs.Tryz.results45 rfl (Own.nil _) ?_
  refine JC.re (fun w h => (h.nilOwn 74 2).nilOwn 74 2) ?_
  refine JC.rs ?_
  refine Seq.alloc (cs := [_, _, _, _]) (hz := z.text_line) (k := ?_); intro b2
  refine Seq.p rfl Ev.assign ?_
  refine Seq.nil ?_
  refine JC.rs ?_
  refine Seq.p rfl Ev.move ?_
  refine Seq.callP rfl (fun w hw => hfv ▸ textFrame (hr.up hw) hB (hL.upd hw)) ?_
  refine Seq.p rfl Ev.move ?_
  refine Seq.p rfl Ev.extract ?_
  refine Seq.p rfl Ev.extract ?_
  refine Seq.p rfl Ev.extract ?_
  refine Seq.p rfl Ev.extract ?_
  refine Seq.alloc (cs := [_, _, _, _]) (hz := z.text_line) (k := ?_); intro b4
  refine Seq.storeN [_, _, _, _] sz.text_line (k := ?_)
  refine Seq.p rfl Ev.assign ?_
  refine Seq.p rfl Ev.assign ?_
  refine Seq.p rfl Ev.assign ?_
  refine Seq.nil ?_
  refine JC.seq ?_
  refine JC.rs ?_
  refine Seq.p rfl Ev.move ?_
  refine Seq.p rfl Ev.ne ?_
  refine Seq.nil ?_
  first | refine JC.c (ht := fun c19 => ?_) (hf := fun c19 => ?_) | refine JC.cb (ht := fun c19 => ?_) (hf := fun c19 => ?_)
  · -- then_t19
    refine JC.rs ?_
    refine Seq.p rfl (Ev.ldBA ag.text_line) ?_
    refine Seq.p rfl Ev.move ?_
    refine Seq.storeN [_, _, _, _] sz.text_line (k := ?_)
    refine Seq.p rfl Ev.assign ?_
    refine Seq.nil ?_
    refine JC.ret ?_
    show retQ _ _ _ _ _ _ _ _
    refine retB2 ag.text_line (H' := [nilC]) (hp := (by repeat (first | exact Part.refl _ | exact Part.nil _ | apply Part.here | apply Part.skip))) (hpost := ?_)
    rcases hfacts with ⟨h1, rfl, h2⟩ | ⟨h1, _⟩
    · rw [h2]; exact ⟨none, 0, by unfold lineA badA; simp only; rw [if_neg h1]; rfl, rfl⟩
    · exact absurd h1 c19
  · -- else_t19
    obtain ⟨rfl, f, k, hh, hs1, hs2, rfl, rfl, rfl, rfl, hf1, hf2, hk⟩ : c0 = 0 ∧ ∃ f k : Nat, headF l = .ok f k ∧ ¬ 2048 < f + k + 7 ∧ ¬ l.length < f + k + 7 ∧ sz0 = ((f + k + 7 : Nat) : Int) ∧ pl = 0 ∧ fr = (f : Int) ∧ to = ((f + k : Nat) : Int) ∧ 11 ≤ f ∧ f ≤ 16 ∧ k < 10000 := by
      rcases hfacts with ⟨h1, _⟩ | h
      · exact absurd h1 c19
      · exact h
    have hT : ((l.drop (f + k)).take 7).length = 7 := by rw [List.length_take, List.length_drop]; omega
    have hBT : isBytes ((l.drop (f + k)).take 7) := isBytes_take (isBytes_drop hB)
    have hsubT : RSl byteEnc 1 w [] (subSl v (f + k) (f + k + 7) 1) ((l.drop (f + k)).take 7) := by
      have h2 := hr.sub (lo := f + k) (hi := f + k + 7) (by omega) (by omega)
      rwa [show f + k + 7 - (f + k) = 7 by omega] at h2
    have hhead : RSl byteEnc 1 w [] (subSl v 0 (f + k) 1) (l.take (f + k)) := by
      have h2 := hr.sub (lo := 0) (hi := f + k) (by omega) (by omega)
      rwa [List.drop_zero] at h2
    generalize hTg : (l.drop (f + k)).take 7 = T at hT hBT hsubT
    refine JC.skip ?_
    refine JC.seq ?_
    refine JC.blk ?_
    refine JC.rs ?_
    refine Seq.p rfl Ev.move ?_
    refine Seq.p rfl Ev.move ?_
    refine Seq.p rfl (Ev.faB fd.text_line_2) ?_
    refine Seq.p rfl (Ev.ldB sc.int) ?_
    refine Seq.p rfl (Ev.cut sl.sl_uint8 (hr := hr.r) (l := f + k) (h := f + k + 7) (hlo := ⟨_, (by repeat (first | exact Look.here | apply Look.there (hne := rfl) | exact Look.const | apply Look.mix rfl | exact Look.arg0 | apply Look.args | exact Look.func))⟩) (hhi := ⟨_, (by repeat (first | exact Look.here | apply Look.there (hne := rfl) | exact Look.const | apply Look.mix rfl | exact Look.arg0 | apply Look.args | exact Look.func))⟩)) ?_
    refine Seq.callP rfl (fun w hw => textTrailed (hsubT.up hw) hBT hT) ?_
    refine Seq.p rfl Ev.not ?_
    refine Seq.p rfl Ev.move ?_
    refine Seq.orG (D := [30, 31, 32, 33, 34]) (d := 30) (t := 34) (k := 4) (hn := fun h30 => ?_) (hx := ?_)
    · repeat (first | refine Seq.gn rfl rfl rfl rfl ?_ | refine Seq.gu rfl rfl rfl ?_)
      refine Seq.p rfl Ev.pickT ?_
      exact Seq.nil ⟨rfl, (by repeat (first | with_reducible exact Off.refl | refine Off.upd ?_ rfl | exact Off.mix | refine Off.mix2 ?_ rfl)), Look.here⟩
    apply Exists.intro
    refine ⟨fun h30 => ?_, fun u34 => ?_⟩
    · try simp only [decide_eq_true_eq, decide_eq_false_iff_not, Bool.and_eq_true, Bool.or_eq_true, Bool.not_eq_true', Bool.not_eq_false', Bool.or_eq_false_iff, Bool.and_eq_false_imp] at h30
      refine Seq.gy rfl rfl rfl ?_
      refine Seq.p rfl Ev.move ?_
      refine Seq.gy rfl rfl rfl ?_
      refine Seq.p rfl Ev.move ?_
      refine Seq.gy rfl rfl rfl ?_
      refine Seq.p rfl Ev.eq ?_
      refine Seq.p rfl Ev.pickF ?_
      exact Seq.nil ⟨rfl, (by repeat (first | with_reducible exact Off.refl | refine Off.upd ?_ rfl | exact Off.mix | refine Off.mix2 ?_ rfl)), Look.here⟩
    refine Seq.p rfl Ev.move ?_
    refine Seq.orG (D := [35, 36, 37, 38, 39, 40, 41, 42]) (d := 35) (t := 42) (k := 7) (hn := fun h35 => ?_) (hx := ?_)
    · repeat (first | refine Seq.gn rfl rfl rfl rfl ?_ | refine Seq.gu rfl rfl rfl ?_)
      refine Seq.p rfl Ev.pickT ?_
      exact Seq.nil ⟨rfl, (by repeat (first | with_reducible exact Off.refl | refine Off.upd ?_ rfl | exact Off.mix | refine Off.mix2 ?_ rfl)), Look.here⟩
    apply Exists.intro
    refine ⟨fun h35 => ?_, fun u42 => ?_⟩
    · try simp only [decide_eq_true_eq, decide_eq_false_iff_not, Bool.and_eq_true, Bool.or_eq_true, Bool.not_eq_true', Bool.not_eq_false', Bool.or_eq_false_iff, Bool.and_eq_false_imp] at h35
      refine Seq.gy rfl rfl rfl ?_
      refine Seq.p rfl Ev.move ?_
      refine Seq.gy rfl rfl rfl ?_
      refine Seq.p rfl Ev.move ?_
      refine Seq.gy rfl rfl rfl ?_
      refine Seq.p rfl (Ev.dec (m := f + k)) ?_
      refine Seq.gy rfl rfl rfl ?_
      refine Seq.p rfl (Ev.iaN sl.sl_uint8 (hr := hr.r)) ?_
      refine Seq.gy rfl rfl rfl ?_
      refine Seq.p rfl (Ev.ldE1 sc.uint8 (hr := hr.r)) ?_
      refine Seq.gy rfl rfl rfl ?_
      refine Seq.p rfl Ev.ne ?_
      refine Seq.p rfl Ev.pickF ?_
      exact Seq.nil ⟨rfl, (by repeat (first | with_reducible exact Off.refl | refine Off.upd ?_ rfl | exact Off.mix | refine Off.mix2 ?_ rfl)), Look.here⟩
    refine Seq.p rfl Ev.assign ?_
    refine Seq.nil ?_
    first | refine JC.c (ht := fun c22 => ?_) (hf := fun c22 => ?_) | refine JC.cb (ht := fun c22 => ?_) (hf := fun c22 => ?_)
    · -- then_t22
      have hcc : trailB T = false ∨ k = 0 ∨ l[f + k - 1]! ≠ 1 := by
        simp only [Bool.or_eq_true, Bool.not_eq_true', decide_eq_true_eq] at c22
        rcases c22 with (h | h) | h
        · exact .inl h
        · exact .inr (.inl (by omega))
        · exact .inr (.inr h)
      refine JC.rs ?_
      refine Seq.p rfl Ev.move ?_
      refine Seq.p rfl (Ev.buildN [_, _, _, _] pl.text_line z.text_line) ?_
      refine Seq.storeN [_, _, _, _] sz.text_line (k := ?_)
      refine Seq.p rfl Ev.assign ?_
      refine Seq.nil ?_
      refine JC.ret ?_
      show retQ _ _ _ _ _ _ _ _
      refine retB2 ag.text_line (H' := [nilC]) (hp := (by repeat (first | exact Part.refl _ | exact Part.nil _ | apply Part.here | apply Part.skip))) (hpost := ?_)
      rw [readF_body hh hs1 hs2 (by rw [hTg]; exact hcc)]
      exact ⟨none, 0, rfl, rfl⟩
    · -- else_t22
      have hcc : ¬ (trailB T = false ∨ k = 0 ∨ l[f + k - 1]! ≠ 1) := by
        simp only [Bool.or_eq_false_iff, Bool.not_eq_false', decide_eq_false_iff_not] at c22
        rintro (h | h | h)
        · rw [c22.1.1] at h; cases h
        · exact c22.1.2 (by omega)
        · exact c22.2 h
      refine JC.qs mixed (by kernel_rfl) ?_
      refine Qui.p rfl Ev.move ?_
      refine Qui.p rfl Ev.move ?_
      refine Qui.p rfl (Ev.faB fd.text_line_2) ?_
      refine Qui.p rfl (Ev.ldB sc.int) ?_
      refine Qui.p rfl (Ev.cut sl.sl_uint8 (hr := hr.r) (l := f + k) (h := f + k + 7) (hlo := ⟨_, (by repeat (first | exact Look.here | apply Look.there (hne := rfl) | exact Look.const | apply Look.mix rfl | exact Look.arg0 | apply Look.args | exact Look.func))⟩) (hhi := ⟨_, (by repeat (first | exact Look.here | apply Look.there (hne := rfl) | exact Look.const | apply Look.mix rfl | exact Look.arg0 | apply Look.args | exact Look.func))⟩)) ?_
      refine Qui.p rfl (Ev.strOf (l := T) sl.sl_uint8 it.uint8 st.string (hr := hsubT.r)) ?_
      refine Qui.p rfl Ev.move ?_
      refine Qui.p rfl Ev.move ?_
      refine Qui.p rfl (Ev.cut sl.sl_uint8 (hr := hr.r) (l := 0) (h := f + k) (hlo := rfl) (hhi := ⟨_, (by repeat (first | exact Look.here | apply Look.there (hne := rfl) | exact Look.const | apply Look.mix rfl | exact Look.arg0 | apply Look.args | exact Look.func))⟩)) ?_
      refine Qui.call rfl (fun w hw => textLast (hhead.up hw) (isBytes_take hB) (hL.upd hw)) ?_
      refine Qui.p rfl Ev.neStr ?_
      refine Qui.p rfl Ev.assign ?_
      refine Qui.nil ?_
      first | refine JC.c (ht := fun c45 => ?_) (hf := fun c45 => ?_) | refine JC.cb (ht := fun c45 => ?_) (hf := fun c45 => ?_)
      · -- then_t45
        have h4 : T ≠ lastL (l.take (f + k)) := fun h => c45 (by rw [h])
        refine JC.rs ?_
        refine Seq.p rfl Ev.move ?_
        refine Seq.p rfl (Ev.buildN [_, _, _, _] pl.text_line z.text_line) ?_
        refine Seq.storeN [_, _, _, _] sz.text_line (k := ?_)
        refine Seq.p rfl Ev.assign ?_
        refine Seq.nil ?_
        refine JC.ret ?_
        show retQ _ _ _ _ _ _ _ _
        refine retB2 ag.text_line (H' := [nilC]) (hp := (by repeat (first | exact Part.refl _ | exact Part.nil _ | apply Part.here | apply Part.skip))) (hpost := ?_)
        rw [readF_trail hh hs1 hs2 (by rw [hTg]; exact hcc) (by rw [hTg]; exact h4)]
        exact ⟨none, 0, rfl, rfl⟩
      · -- else_t45
        have h4 : ¬ T ≠ lastL (l.take (f + k)) := fun h => h ((strOf_inj hBT (isBytes_last _)).1 (Classical.not_not.1 c45))
        have hrd := readF_parts hh hs1 hs2 (by rw [hTg]; exact hcc) (by rw [hTg]; exact h4)
        have hb1 : l[f + k - 1]! = 1 := Classical.not_not.1 fun h => hcc (.inr (.inr h))
        refine JC.skip ?_
        refine JC.seq ?_
        refine JC.rs ?_
        refine Seq.p rfl Ev.move ?_
        refine Seq.p rfl Ev.assign ?_
        refine Seq.nil ?_
        refine JC.blk ?_
        refine JC.part (H' := [lineC b4 ⟨#[]⟩ (.slice none 0 0) ((f + k + 7 : Nat) : Int) 0, tagsC (.slice none 0 0) [], lineC b2 ⟨#[]⟩ (.slice none 0 0) 0 0, nilC]) ⟨[], (List.Perm.swap _ _ _).cons _⟩ ?_
        refine JC.loop (α := Nat) (I := fun p e1 H1 => ∃ kind A c xs, Has [3, 8, 9, 10, 60, 61, 62, 63, 64, 65, 66, 67, 68, 69, 70, 71, 72, 73, 74, 75, 76, 77, 78, 79, 80, 81, 82, 83, 84, 85, 86] [(8, .int .i64 (p : Int))] _ e1 ∧ H1 = [lineC b4 kind (.slice A xs.length c) ((f + k + 7 : Nat) : Int) 0, tagsC (.slice A xs.length c) xs, lineC b2 ⟨#[]⟩ (.slice none 0 0) 0 0, nilC] ∧ f ≤ p ∧ p ≤ f + k ∧ xs.length ≤ 64 ∧ partsF l f (f + k) p kind xs = partsF l f (f + k) f ⟨#[]⟩ []) (μ := fun p => f + k - p) f ⟨⟨#[]⟩, none, 0, [], Has.mk Off.refl (allLook_cons (by repeat (first | exact Look.here | apply Look.there (hne := rfl) | exact Look.const | apply Look.mix rfl | exact Look.arg0 | apply Look.args | exact Look.func)) allLook_nil), rfl, by omega, by omega, by simp, rfl⟩ ?_
        rintro p _ _ ⟨kind, A, c, xs, ⟨u, rfl⟩, rfl, hfp, hpt, hx, hq⟩; dsimp only [setL]
        refine JC.seq ?_
        refine JC.rs ?_
        refine Seq.p rfl Ev.move ?_
        refine Seq.p rfl Ev.move ?_
        refine Seq.p rfl Ev.lt ?_
        refine Seq.nil ?_
        first | refine JC.c (ht := fun c62 => ?_) (hf := fun c62 => ?_) | refine JC.cb (ht := fun c62 => ?_) (hf := fun c62 => ?_)
        · -- then_t62
          have hp : p < f + k := by omega
          have hin := first_in hp (by omega) hb1
          have hlen : (l.drop p).length = l.length - p := List.length_drop ..
          have hFl := fieldAt_len (l := l) (p := p)
          have hsubD : RSl byteEnc 1 w [] (subSl v p l.length 1) (l.drop p) := by
            have h2 := hr.sub (lo := p) (hi := l.length) (by omega) (by omega)
            rwa [List.take_of_length_le (by rw [hlen]; omega)] at h2
          have hsubF : RSl byteEnc 1 w [] (subSl v p (p + firstF 1 (l.drop p)) 1) (fieldAt l p) := by
            have h2 := hr.sub (lo := p) (hi := p + firstF 1 (l.drop p)) (by omega) (by omega)
            rwa [show p + firstF 1 (l.drop p) - p = firstF 1 (l.drop p) by omega] at h2
          obtain ⟨A3, c3, hv3, hc3, hA3⟩ := hsubD.shape
          have hsubD2 := hsubD
          rw [hv3] at hsubD2
          refine JC.skip ?_
          refine JC.blk ?_
          refine JC.rs ?_
          refine Seq.p rfl Ev.move ?_
          refine Seq.p rfl Ev.move ?_
          refine Seq.p rfl Ev.move ?_
          refine Seq.p rfl (Ev.cut sl.sl_uint8 (hr := hr.r) (l := p) (h := l.length) (hlo := ⟨_, (by repeat (first | exact Look.here | apply Look.there (hne := rfl) | exact Look.const | apply Look.mix rfl | exact Look.arg0 | apply Look.args | exact Look.func))⟩) (hhi := rfl)) ?_
          rw [hv3]
          refine Seq.callP (v := .int .i64 (firstF 1 (l.drop p) : Int)) rfl (fun w' hw => by have h2 := textIndexByte (hsubD2.up hw) (by intro h0; rw [h0] at hlen; simp at hlen; omega) (isBytes_drop hB); rwa [if_pos (by omega)] at h2) ?_
          refine Seq.p rfl (Ev.addN (m := p) (c := firstF 1 (l.drop p))) ?_
          refine Seq.p rfl Ev.assign ?_
          refine Seq.nil ?_
          refine JC.seq ?_
          refine JC.rs ?_
          refine Seq.p rfl Ev.move ?_
          refine Seq.p rfl Ev.move ?_
          refine Seq.p rfl Ev.move ?_
          refine Seq.p rfl (Ev.cut sl.sl_uint8 (hr := hr.r) (l := p) (h := p + firstF 1 (l.drop p)) (hlo := ⟨_, (by repeat (first | exact Look.here | apply Look.there (hne := rfl) | exact Look.const | apply Look.mix rfl | exact Look.arg0 | apply Look.args | exact Look.func))⟩) (hhi := ⟨_, (by repeat (first | exact Look.here | apply Look.there (hne := rfl) | exact Look.const | apply Look.mix rfl | exact Look.arg0 | apply Look.args | exact Look.func))⟩)) ?_
          refine Seq.p rfl (Ev.strOf (l := fieldAt l p) sl.sl_uint8 it.uint8 st.string (hr := hsubF.r)) ?_
          refine Seq.p rfl Ev.move ?_
          refine Seq.p rfl Ev.move ?_
          refine Seq.p rfl Ev.eq ?_
          rw [show decide ((p : Int) = (f : Int)) = decide (p = f) by rw [decide_eq_decide]; omega]
          refine Seq.call rfl (fun w' hw => textTake (isBytes_take (isBytes_drop hB)) (by omega) hx hL (hw.part (Part.here (Part.here (Part.nil _))))) (F := [lineC b2 ⟨#[]⟩ (.slice none 0 0) 0 0, nilC]) (List.Perm.refl _) ?_
          have hxx := takeF_len (F := fieldAt l p) (first := decide (p = f)) (kind := kind) hx
          obtain ⟨e1, kind1, xs1, htk⟩ : ∃ a b c, takeF (fieldAt l p) (decide (p = f)) kind xs = (a, b, c) := ⟨_, _, _, rfl⟩
          rw [htk] at hxx ⊢
          rintro _ _ ⟨A1, c1, rfl, rfl⟩
          simp only [List.cons_append, List.nil_append] at hxx ⊢
          refine Seq.p rfl Ev.assign ?_
          refine Seq.nil ?_
          refine JC.rs ?_
          refine Seq.p rfl Ev.move ?_
          refine Seq.p rfl Ev.ne ?_
          refine Seq.nil ?_
          first | refine JC.c (ht := fun c79 => ?_) (hf := fun c79 => ?_) | refine JC.cb (ht := fun c79 => ?_) (hf := fun c79 => ?_)
          · -- then_t79
            refine JC.rs ?_
            refine Seq.p rfl Ev.move ?_
            refine Seq.p rfl (Ev.faB fd.text_line_2) ?_
            refine Seq.p rfl (Ev.ldB sc.int) ?_
            refine Seq.p rfl (Ev.buildN [_, _, _, _] pl.text_line z.text_line) ?_
            refine Seq.p rfl Ev.move ?_
            refine Seq.storeN [_, _, _, _] sz.text_line (k := ?_)
            refine Seq.p rfl Ev.assign ?_
            refine Seq.nil ?_
            refine JC.ret ?_
            show retQ _ _ _ _ _ _ _ _
            refine retB2 ag.text_line (H' := [nilC]) (hp := (by repeat (first | exact Part.refl _ | exact Part.nil _ | apply Part.here | apply Part.skip))) (hpost := ?_)
            rw [hrd, ← hq, partsF_bad hp htk c79]
            exact ⟨none, 0, by unfold lineA partA; simp only; rw [if_neg c79]; rfl, rfl⟩
          · -- else_t79
            obtain rfl : e1 = 0 := Classical.not_not.1 c79
            rw [partsF_step hp htk] at hq
            refine JC.skip ?_
            refine JC.reg ?_
            refine Seq.p rfl Ev.move ?_
            refine Seq.p rfl (by first | exact Ev.inc | exact Ev.add) ?_
            refine Seq.p rfl Ev.assign ?_
            refine Seq.nil ?_
            exact ⟨p + firstF 1 (l.drop p) + 1, _, Part.refl _, ⟨kind1, A1, c1, xs1, Has.mk (by repeat (first | refine Off.upd ?_ rfl | exact Off.mix | refine Off.mix2 ?_ rfl | exact Off.refl)) (allLook_cons (by repeat (first | exact Look.here | apply Look.there (hne := rfl) | exact Look.const | apply Look.mix rfl | exact Look.arg0 | apply Look.args | exact Look.func)) allLook_nil), rfl, by omega, by omega, hxx, hq⟩, by omega⟩
        · -- else_t62
          rw [partsF_end (by omega)] at hq
          refine JC.exit ?_ -- 1
          refine JC.rs ?_
          refine Seq.p rfl (Ev.ldBA ag.text_line) ?_
          refine Seq.storeN [_, _, _, _] sz.text_line (k := ?_)
          refine Seq.p rfl Ev.assign ?_
          refine Seq.nil ?_
          refine JC.ret ?_
          show retQ _ _ _ _ _ _ _ _
          refine retB2 ag.text_line (H' := [tagsC (.slice A xs.length c) xs]) (hp := (by repeat (first | exact Part.refl _ | exact Part.nil _ | apply Part.here | apply Part.skip))) (hpost := ?_)
          rw [hrd, ← hq]
          exact ⟨A, c, rfl, rfl⟩
set_option maxHeartbeats 1000000 in
set_option maxRecDepth 100000 in
theorem textDecode {w : World} {v : Value} {l : List Int} (hr : RSl byteEnc 1 w [] v l) (hB : isBytes l) (hl : l.length ≤ 281474976710656) (hL : Laid w) :
    Spec Go.Proofs.Tryz.prog 19 #[v] w [] (fun u H' => ∃ A c, u = .tuple #[.string (readF l).kind, .slice A (readF l).tags.length c, .int .i64 (readF l).place, .int .i64 (readF l).why] ∧ H' = [tagsC (.slice A (readF l).tags.length c) (readF l).tags]) := by
  refine Spec.enter (fn := Go.Proofs.Tryz.f19) (n := 24) [v] Go.Proofs.Tryz.func19 (by kernel_rfl) rfl Go.Proofs.Tryz.ntmps19 Go.Proofs.Tryz.results19 rfl (Own.nil _) ?_
  refine JC.re (fun w h => h.nilOwn 74 2) ?_
  refine JC.rs ?_
  refine Seq.p rfl Ev.assign ?_
  refine Seq.p rfl Ev.assign ?_
  refine Seq.p rfl Ev.assign ?_
  refine Seq.p rfl Ev.assign ?_
  refine Seq.nil ?_
  refine JC.rs ?_
  refine Seq.p rfl Ev.move ?_
  refine Seq.call rfl (fun w' hw => textRead (hr.up hw) hB hl (hL.upd hw)) (F := _) (by exact List.Perm.refl _) ?_
  rintro _ _ ⟨A1, c1, rfl, rfl⟩
  simp only [lineA]
  refine Seq.p rfl Ev.move ?_
  refine Seq.p rfl Ev.extract ?_
  refine Seq.p rfl Ev.extract ?_
  refine Seq.alloc (cs := [_, _, _, _]) (hz := z.text_line) (k := ?_); intro b6
  refine Seq.storeN [_, _, _, _] sz.text_line (k := ?_)
  refine Seq.p rfl Ev.assign ?_
  refine Seq.nil ?_
  refine JC.seq ?_
  refine JC.rs ?_
  refine Seq.p rfl Ev.move ?_
  refine Seq.p rfl Ev.ne ?_
  refine Seq.nil ?_
  first | refine JC.c (ht := fun c14 => ?_) (hf := fun c14 => ?_) | refine JC.cb (ht := fun c14 => ?_) (hf := fun c14 => ?_)
  · -- then_t14
    refine JC.qs mixed (by kernel_rfl) ?_
    refine Qui.p rfl (Ev.faB fd.text_line_3) ?_
    refine Qui.p rfl (Ev.ldB sc.int) ?_
    refine Qui.p rfl Ev.move ?_
    refine Qui.p rfl Ev.assign ?_
    refine Qui.p rfl Ev.assign ?_
    refine Qui.p rfl Ev.assign ?_
    refine Qui.p rfl Ev.assign ?_
    refine Qui.nil ?_
    refine JC.ret ?_
    show retQ _ _ _ _ _ _ _ _
    refine retI (RVs.t (hs := (RVs.t (hs := (RVs.t (hs := (RVs.t (hs := RVs.nil)))))))) (H' := [nilC]) (by repeat (first | exact Part.refl _ | exact Part.nil _ | apply Part.here | apply Part.skip)) ?_
    have h1 := readF_bad_form c14
    rw [h1.1, h1.2]
    exact ⟨none, 0, by rw [if_neg c14]; rfl, rfl⟩
  · -- else_t14
    refine JC.skip ?_
    refine JC.qs mixed (by kernel_rfl) ?_
    refine Qui.p rfl (Ev.faB fd.text_line_0) ?_
    refine Qui.p rfl (Ev.ldB sc.string) ?_
    refine Qui.p rfl (Ev.faB fd.text_line_1) ?_
    refine Qui.p rfl (Ev.ldB sc.sl_api_Tag) ?_
    refine Qui.p rfl (Ev.faB fd.text_line_2) ?_
    refine Qui.p rfl (Ev.ldB sc.int) ?_
    refine Qui.p rfl Ev.assign ?_
    refine Qui.p rfl Ev.assign ?_
    refine Qui.p rfl Ev.assign ?_
    refine Qui.p rfl Ev.assign ?_
    refine Qui.nil ?_
    refine JC.ret ?_
    show retQ _ _ _ _ _ _ _ _
    refine retI (RVs.t (hs := (RVs.t (hs := (RVs.t (hs := (RVs.t (hs := RVs.nil)))))))) (H' := [tagsC (.slice A1 (readF l).tags.length c1) (readF l).tags]) (by repeat (first | exact Part.refl _ | exact Part.nil _ | apply Part.here | apply Part.skip)) ?_
    have h1 := Classical.not_not.1 c14
    rw [readF_ok_place h1, h1]
    exact ⟨A1, c1, rfl, rfl⟩
end Go.Rx
/- What is lent to a call, whether it stayed, and what writes over it. -/
namespace Go.Rx
open Go Go.RowKit Go.Lib Go.Proofs.YthpejgmkiomfhaaGreatDoor
set_option linter.unusedVariables false
set_option linter.unusedSimpArgs false
abbrev bytesC (v : Value) (l : List Int) : Chunk := .own 5 1 v l.length (l.flatMap byteEnc)
theorem bytesC_append (v : Value) (l m : List Int) (j : Nat) (hj : m.length = j) : bytesC v (l ++ m) = .own 5 1 v (l.length + j) (l.flatMap byteEnc ++ m.flatMap byteEnc) := by
  subst hj
  unfold bytesC
  rw [List.length_append, List.flatMap_append]
def markN (i : Nat) : List Int := (List.range i).map fun j => ((171 + j : Nat) : Int)
end Go.Rx
/- The law bourselaw03.TextDecodes gives true. -/
namespace Go.Rx
open Go Go.RowKit Go.Lib Go.Proofs.YthpejgmkiomfhaaGreatDoor
set_option linter.unusedVariables false
set_option linter.unusedSimpArgs false
theorem partsF_tags {l : List Int} {f to : Nat} {kind' : ByteArray} {ys : List Tg} {N : Nat} (hN : l.length ≤ N) : ∀ {p : Nat} {kind : ByteArray} {xs : List Tg}, (∀ t ∈ xs, t.value.size ≤ N) → xs.length ≤ 64 → partsF l f to p kind xs = .ok kind' ys → (∀ t ∈ ys, t.value.size ≤ N) ∧ ys.length ≤ 64 := by
  intro p kind xs hx h64 h
  generalize hd : to - p = d
  induction d using Nat.strongRecOn generalizing p kind xs with
  | _ d ih =>
    rw [partsF] at h
    split at h
    · split at h
      · cases h
      · refine ih (to - (p + firstF 1 (l.drop p) + 1)) (by omega) ?_ (takeF_len h64) h rfl
        have hFl := fieldAt_len (l := l) (p := p)
        have hle := firstF_le 1 (l.drop p)
        rw [List.length_drop] at hle
        have hv : (fieldV (fieldAt l p)).size ≤ N := by
          unfold fieldV
          rw [strOf_size, List.length_drop]
          omega
        unfold takeF
        split
        · exact hx
        · split
          · split <;> exact hx
          · split
            · exact hx
            · split
              · exact hx
              · intro t ht
                rcases List.mem_append.1 ht with ht | ht
                · exact hx t ht
                · rw [List.mem_singleton.1 ht]
                  exact hv
    · cases h
      exact ⟨hx, h64⟩
theorem readF_tags {l : List Int} {N : Nat} (hN : l.length ≤ N) : (∀ t ∈ (readF l).tags, t.value.size ≤ N) ∧ (readF l).tags.length ≤ 64 := by
  rcases readF_cases l with ⟨a, c, h, _⟩ | ⟨f, k, _, h⟩
  · rw [h]; exact ⟨fun t ht => (by cases ht), (Nat.zero_le _)⟩
  · rw [h]
    cases hp : partsF l f (f + k) f ⟨#[]⟩ [] with
    | bad p e => exact ⟨fun t ht => (by cases ht), (Nat.zero_le _)⟩
    | ok kind xs => exact partsF_tags hN (fun t ht => (by cases ht)) (by decide) hp
end Go.Rx
