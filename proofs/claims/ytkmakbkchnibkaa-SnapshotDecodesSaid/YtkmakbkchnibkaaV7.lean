/- A book's bytes, by the program and by the document. -/
import Derived.Test.YtkmakbkchnibkaaV6
namespace Go.Rx
open Go Go.RowKit
set_option linter.unusedVariables false
set_option linter.unusedSimpArgs false
def magicL : List Int := [66, 82, 83, 66, 79, 79, 75, 49]
theorem magicL_length : magicL.length = 8 := rfl
theorem magicC (v : Value) : Chunk.own 5 1 v 8 [.int .u8 66, .int .u8 82, .int .u8 83, .int .u8 66, .int .u8 79, .int .u8 79, .int .u8 75, .int .u8 49] = bytesC v magicL := rfl
def outB (b : Book) : List Int := if validE b = 0 then encB b else []
def EncPost (b : Book) (u : Value) (N : List Chunk) : Prop := ∃ A c, u = .tuple #[.slice A (outB b).length c, .int .i64 (validE b)] ∧ N = [bytesC (.slice A (outB b).length c) (outB b)]
theorem validE_not {b : Book} (h : validE b ≠ 0) : validE b = 120 := by
  unfold validE at h ⊢
  split
  · rename_i h2; rw [if_pos h2] at h; exact absurd rfl h
  · rfl
theorem validE_ok {b : Book} (h : validE b = 0) : b.ok := by
  by_cases h2 : b.ok
  · exact h2
  · have h3 : validE b = 120 := if_neg h2
    omega
theorem headB_eq (b : Book) : magicL ++ leB (b.cap % 18446744073709551616) 2 ++ leB (b.meet % 18446744073709551616) 1 ++ leB b.high 8 ++ leB b.seq 8 ++ leB ((b.buys.length : Int) % 18446744073709551616) 2 ++ leB ((b.sells.length : Int) % 18446744073709551616) 2 = headB b := rfl
theorem item_eq (l : List Int) (o : Resting) : l ++ leB o.id 8 ++ leB (o.member % 18446744073709551616) 4 ++ leB (o.type % 18446744073709551616) 1 ++ leB (o.price % 18446744073709551616) 4 ++ leB o.visible 4 ++ leB o.hidden 4 ++ leB o.peak 4 = l ++ itemB o := by
  simp only [itemB, List.append_assoc]
theorem two {w : World} {C : List Chunk} {a b : Value} {x y : List Resting} (ha : RSl Resting.enc 7 w C a x) (hb : RSl Resting.enc 7 w C b y) : ∀ i, i < [a, b].length → RSl Resting.enc 7 w C ([a, b])[i]! ([x, y])[i]! := by
  intro i hi
  rcases i with _ | _ | i
  · exact ha
  · exact hb
  · exact absurd hi (by show ¬ i + 1 + 1 < 2; omega)
theorem two_flat (x y : List Resting) : [x, y].flatten = x ++ y := by simp
set_option maxHeartbeats 4000000 in
set_option maxRecDepth 100000 in
theorem snapEncode {w : World} {b : Book} {vb vs : Value} (hb : RSl Resting.enc 7 w [] vb b.buys) (hs : RSl Resting.enc 7 w [] vs b.sells) (wf : b.Wf) :
    Spec Go.Proofs.Try.prog 15 #[.agg (bookV b vb vs).toArray] w [] (EncPost b) := by
  have hb1 := hb.small
  have hs1 := hs.small
  obtain ⟨Ab, cb, rfl, _, _⟩ := hb.shape
  obtain ⟨As, cs, rfl, _, _⟩ := hs.shape
  generalize hvb : Value.slice Ab b.buys.length cb = vb at hb
  generalize hvs : Value.slice As b.sells.length cs = vs at hs
  subst hvb hvs
  refine Spec.enter (fn := Go.Proofs.Try.f15) (n := 85) [.agg (bookV b (.slice Ab b.buys.length cb) (.slice As b.sells.length cs)).toArray] Go.Proofs.Try.func15 (by kernel_rfl) rfl Go.Proofs.Try.ntmps15 Go.Proofs.Try.results15 rfl (Own.nil _) ?_
  refine JC.rs ?_
  refine Seq.box (cs := [_, _, _, _, _, _]) (k := ?_); intro b1
  refine Seq.p rfl Ev.assign ?_
  refine Seq.p rfl Ev.assign ?_
  refine Seq.nil ?_
  refine JC.seq ?_
  refine JC.rs ?_
  refine Seq.p rfl (Ev.ldBA ag.api_Book) ?_
  refine Seq.callP rfl (fun w hw => rulesValid (hb.up hw) (hs.up hw) wf) ?_
  refine Seq.p rfl Ev.ne ?_
  refine Seq.nil ?_
  first | refine JC.c (ht := fun c9 => ?_) (hf := fun c9 => ?_) | refine JC.cb (ht := fun c9 => ?_) (hf := fun c9 => ?_)
  · -- then_t9
    have ho : outB b = [] := if_neg c9
    refine JC.re (fun w h => Upd.nilOwn h 5 1) ?_
    refine JC.rs ?_
    refine Seq.p rfl Ev.assign ?_
    refine Seq.p rfl Ev.assign ?_
    refine Seq.nil ?_
    refine JC.ret ?_
    -- return 0
    show retQ _ _ _ _ _ _ _ _
    refine ret2 (H' := [bytesC (.slice none 0 0) []]) (hp := Part.here (Part.nil _)) (hpost := ?_)
    rw [EncPost, ho, validE_not c9]
    exact ⟨_, _, rfl, rfl⟩
  · -- else_t9
    have he0 : validE b = 0 := by omega
    have hok := validE_ok he0
    have hcf := cfgB_iff.1 hok.1
    have hln := hok.2.1
    refine JC.skip ?_
    refine JC.rs ?_
    refine Seq.buildSlS [_, _, _, _, _, _, _, _] (hsl := sl.sl_uint8) (hz := z.uint8) (k := ?_); intro b10
    refine Seq.markLit (hd := sl.sl_uint8) (he := it.uint8) (k := ?_)
    rw [magicC]
    refine Seq.p rfl (Ev.faB fd.api_Book_0) ?_
    refine Seq.p rfl (Ev.faB fd.api_Config_0) ?_
    refine Seq.p rfl (Ev.ldB sc.int) ?_
    refine Seq.p rfl (Ev.convU64W it.int it.uint64) ?_
    refine Seq.callAt (hs := fun w hw ho => snapPut (k := 2) (by decide) (by first | omega | (simp only [List.length_append, leB_length, magicL_length]; omega)) ho) (hH := At.z) (k := ?_)
    rintro v16 _ ⟨⟨A16, c16, rfl⟩, rfl⟩
    refine Seq.p rfl Ev.assign ?_
    refine Seq.nil ?_
    refine JC.rs ?_
    refine Seq.p rfl Ev.move ?_
    refine Seq.p rfl (Ev.faB fd.api_Book_0) ?_
    refine Seq.p rfl (Ev.faB fd.api_Config_1) ?_
    refine Seq.p rfl (Ev.ldB sc.int) ?_
    refine Seq.p rfl (Ev.convU64W it.int it.uint64) ?_
    refine Seq.callAt (hs := fun w hw ho => snapPut (k := 1) (by decide) (by first | omega | (simp only [List.length_append, leB_length, magicL_length]; omega)) ho) (hH := At.z) (k := ?_)
    rintro v22 _ ⟨⟨A22, c22, rfl⟩, rfl⟩
    refine Seq.p rfl Ev.assign ?_
    refine Seq.nil ?_
    refine JC.asE 0 mixed ?_
    refine Any.p 0 rfl (by kernel_rfl) (by kernel_rfl) (by kernel_rfl) rfl Ev.move ?_
    refine Any.p 1 rfl (by kernel_rfl) (by kernel_rfl) (by kernel_rfl) rfl (Ev.faB fd.api_Book_3) ?_
    refine Any.p 2 rfl (by kernel_rfl) (by kernel_rfl) (by kernel_rfl) rfl (Ev.ldB sc.uint64) ?_
    refine Any.p 4 rfl (by kernel_rfl) (by kernel_rfl) (by kernel_rfl) rfl (Ev.faB fd.api_Book_4) ?_
    refine Any.p 5 rfl (by kernel_rfl) (by kernel_rfl) (by kernel_rfl) rfl (Ev.ldB sc.uint64) ?_
    refine Any.one 3 rfl (by kernel_rfl) ?_
    refine Seq.callAt (hs := fun w hw ho => snapPut (k := 8) (by decide) (by first | omega | (simp only [List.length_append, leB_length, magicL_length]; omega)) ho) (hH := At.z) (k := ?_)
    rintro v26 _ ⟨⟨A26, c26, rfl⟩, rfl⟩
    refine Seq.nil ⟨(by repeat (first | exact Part.refl _ | exact Part.nil _ | apply Part.here | apply Part.skip)), ?_⟩
    refine Any.one 6 rfl (by kernel_rfl) ?_
    refine Seq.callAt (hs := fun w hw ho => snapPut (k := 8) (by decide) (by first | omega | (simp only [List.length_append, leB_length, magicL_length]; omega)) ho) (hH := At.z) (k := ?_)
    rintro v29 _ ⟨⟨A29, c29, rfl⟩, rfl⟩
    refine Seq.nil ⟨(by repeat (first | exact Part.refl _ | exact Part.nil _ | apply Part.here | apply Part.skip)), ?_⟩
    refine Any.p 7 rfl (by kernel_rfl) (by kernel_rfl) (by kernel_rfl) rfl Ev.assign ?_
    refine Any.done (by kernel_rfl) ?_
    refine JC.asE 0 mixed ?_
    refine Any.p 0 rfl (by kernel_rfl) (by kernel_rfl) (by kernel_rfl) rfl Ev.move ?_
    refine Any.p 1 rfl (by kernel_rfl) (by kernel_rfl) (by kernel_rfl) rfl (Ev.faB fd.api_Book_1) ?_
    refine Any.p 2 rfl (by kernel_rfl) (by kernel_rfl) (by kernel_rfl) rfl (Ev.ldB sc.sl_api_Resting) ?_
    refine Any.p 3 rfl (by kernel_rfl) (by kernel_rfl) (by kernel_rfl) rfl (Ev.lenSl sl.sl_api_Resting (hr := hb.r)) ?_
    refine Any.p 4 rfl (by kernel_rfl) (by kernel_rfl) (by kernel_rfl) rfl (Ev.convU64W it.int it.uint64) ?_
    refine Any.p 6 rfl (by kernel_rfl) (by kernel_rfl) (by kernel_rfl) rfl (Ev.faB fd.api_Book_2) ?_
    refine Any.p 7 rfl (by kernel_rfl) (by kernel_rfl) (by kernel_rfl) rfl (Ev.ldB sc.sl_api_Resting) ?_
    refine Any.p 8 rfl (by kernel_rfl) (by kernel_rfl) (by kernel_rfl) rfl (Ev.lenSl sl.sl_api_Resting (hr := hs.r)) ?_
    refine Any.p 9 rfl (by kernel_rfl) (by kernel_rfl) (by kernel_rfl) rfl (Ev.convU64W it.int it.uint64) ?_
    refine Any.one 5 rfl (by kernel_rfl) ?_
    refine Seq.callAt (hs := fun w hw ho => snapPut (k := 2) (by decide) (by first | omega | (simp only [List.length_append, leB_length, magicL_length]; omega)) ho) (hH := At.z) (k := ?_)
    rintro v35 _ ⟨⟨A35, c35, rfl⟩, rfl⟩
    refine Seq.nil ⟨(by repeat (first | exact Part.refl _ | exact Part.nil _ | apply Part.here | apply Part.skip)), ?_⟩
    refine Any.one 10 rfl (by kernel_rfl) ?_
    refine Seq.callAt (hs := fun w hw ho => snapPut (k := 2) (by decide) (by first | omega | (simp only [List.length_append, leB_length, magicL_length]; omega)) ho) (hH := At.z) (k := ?_)
    rintro v40 _ ⟨⟨A40, c40, rfl⟩, rfl⟩
    refine Seq.nil ⟨(by repeat (first | exact Part.refl _ | exact Part.nil _ | apply Part.here | apply Part.skip)), ?_⟩
    refine Any.p 11 rfl (by kernel_rfl) (by kernel_rfl) (by kernel_rfl) rfl Ev.assign ?_
    refine Any.done (by kernel_rfl) ?_
    refine JC.seq ?_
    refine JC.rs ?_
    refine Seq.p rfl (Ev.faB fd.api_Book_1) ?_
    refine Seq.p rfl (Ev.ldB sc.sl_api_Resting) ?_
    refine Seq.p rfl (Ev.faB fd.api_Book_2) ?_
    refine Seq.p rfl (Ev.ldB sc.sl_api_Resting) ?_
    refine Seq.buildSlN [_, _] (hsl := sl.sl_sl_api_Resting) (hz := z.sl_api_Resting) (k := ?_); intro b45
    rw [headB_eq]
    refine Seq.call rfl (fun w hw => concatR (L := [b.buys, b.sells]) (RAt.up (RAt.box (enc := fun v : Value => [v]) (xs := [.slice Ab b.buys.length cb, .slice As b.sells.length cs])) hw) rfl (two (hb.up hw) (hs.up hw)) (by simp only [List.flatten_cons, List.flatten_nil, List.append_nil, List.length_append]; omega)) (F := _) (by exact List.Perm.refl _) ?_
    rintro _ _ ⟨A46, c46, rfl, rfl⟩
    rw [two_flat]
    have hal : (b.buys ++ b.sells).length = b.buys.length + b.sells.length := List.length_append
    generalize hL : b.buys ++ b.sells = L at hal
    refine Seq.p rfl (Ev.lenSl sl.sl_api_Resting (hr := RAt.own (enc := Resting.enc) (xs := L))) ?_
    refine Seq.p rfl Ev.move ?_
    refine Seq.nil ?_
    refine JC.blk ?_
    have hhl := headB_length b
    refine JC.loop (α := Nat × Value) (I := fun s e1 H1 => Has [4, 6, 48, 49, 50, 51, 52, 53, 54, 55, 56, 57, 58, 59, 60, 61, 62, 63, 64, 65, 66, 67, 68, 69, 70, 71, 72, 73, 74, 75, 76, 77, 78, 79] [(4, s.2), (48, .int .i64 (s.1 : Int))] _ e1 ∧ H1 = [restC (.slice A46 L.length c46) L, .box b45 24 [.slice Ab b.buys.length cb, .slice As b.sells.length cs], bytesC s.2 (headB b ++ (L.take s.1).flatMap itemB), .box b1 27 (bookV b (.slice Ab b.buys.length cb) (.slice As b.sells.length cs))] ∧ s.1 ≤ L.length ∧ ∃ A c, s.2 = .slice A (headB b ++ (L.take s.1).flatMap itemB).length c) (μ := fun s => L.length - s.1) (0, .slice A40 _ c40) ⟨Has.mk Off.refl (allLook_cons (by repeat (first | exact Look.here | apply Look.there (hne := rfl) | exact Look.const | apply Look.mix rfl | exact Look.arg0 | apply Look.args | exact Look.func)) (allLook_cons (by repeat (first | exact Look.here | apply Look.there (hne := rfl) | exact Look.const | apply Look.mix rfl | exact Look.arg0 | apply Look.args | exact Look.func)) allLook_nil)), by simp only [List.take_zero, List.flatMap_nil, List.append_nil]; rfl, by omega, A40, c40, by simp only [List.take_zero, List.flatMap_nil, List.append_nil, ← headB_eq, List.length_append, leB_length]⟩ ?_
    rintro ⟨i, vi⟩ _ _ ⟨⟨u, rfl⟩, rfl, hi, hvi⟩; dsimp only [setL]; dsimp only at hi hvi
    refine JC.rs ?_
    refine Seq.p rfl Ev.lt ?_
    refine Seq.nil ?_
    refine JC.seq ?_
    first | refine JC.c (ht := fun c49 => ?_) (hf := fun c49 => ?_) | refine JC.cb (ht := fun c49 => ?_) (hf := fun c49 => ?_)
    · -- then_t49
      have hi2 : i < L.length := by omega
      have hli : (headB b ++ (L.take i).flatMap itemB).length ≤ 200000 := by rw [List.length_append, items_length, List.length_take]; omega
      have hsn := items_snoc hi2
      generalize hl : headB b ++ (L.take i).flatMap itemB = l at hli
      refine JC.skip ?_
      refine JC.seq ?_
      refine JC.blk ?_
      refine JC.rs ?_
      refine Seq.p rfl (Ev.iaN sl.sl_api_Resting (hr := RAt.own (enc := Resting.enc) (xs := L))) ?_
      refine Seq.p rfl (Ev.ldEA ag.api_Resting (hr := RAt.own (enc := Resting.enc) (xs := L))) ?_
      refine Seq.alloc (cs := [_, _, _, _, _, _, _]) (hz := z.api_Resting) (k := ?_); intro b6
      refine Seq.storeN [_, _, _, _, _, _, _] sz.api_Resting (k := ?_)
      refine Seq.nil ?_
      refine JC.asE 3 mixed ?_
      refine Any.p 0 rfl (by kernel_rfl) (by kernel_rfl) (by kernel_rfl) rfl Ev.move ?_
      refine Any.p 1 rfl (by kernel_rfl) (by kernel_rfl) (by kernel_rfl) rfl (Ev.faB fd.api_Resting_0) ?_
      refine Any.p 2 rfl (by kernel_rfl) (by kernel_rfl) (by kernel_rfl) rfl (Ev.ldB sc.uint64) ?_
      refine Any.p 4 rfl (by kernel_rfl) (by kernel_rfl) (by kernel_rfl) rfl (Ev.faB fd.api_Resting_1) ?_
      refine Any.p 5 rfl (by kernel_rfl) (by kernel_rfl) (by kernel_rfl) rfl (Ev.ldB sc.uint32) ?_
      refine Any.p 6 rfl (by kernel_rfl) (by kernel_rfl) (by kernel_rfl) rfl (Ev.convU64W it.uint32 it.uint64) ?_
      refine Any.one 3 rfl (by kernel_rfl) ?_
      refine Seq.callAt (hs := fun w hw ho => snapPut (k := 8) (by decide) (by first | omega | (simp only [List.length_append, leB_length, magicL_length]; omega)) ho) (hH := (At.s (At.s (At.s At.z)))) (k := ?_)
      rintro v55 _ ⟨⟨A55, c55, rfl⟩, rfl⟩
      refine Seq.nil ⟨(by repeat (first | exact Part.refl _ | exact Part.nil _ | apply Part.here | apply Part.skip)), ?_⟩
      refine Any.one 7 rfl (by kernel_rfl) ?_
      refine Seq.callAt (hs := fun w hw ho => snapPut (k := 4) (by decide) (by first | omega | (simp only [List.length_append, leB_length, magicL_length]; omega)) ho) (hH := (At.s (At.s (At.s At.z)))) (k := ?_)
      rintro v59 _ ⟨⟨A59, c59, rfl⟩, rfl⟩
      refine Seq.nil ⟨(by repeat (first | exact Part.refl _ | exact Part.nil _ | apply Part.here | apply Part.skip)), ?_⟩
      refine Any.p 8 rfl (by kernel_rfl) (by kernel_rfl) (by kernel_rfl) rfl Ev.assign ?_
      refine Any.done (by kernel_rfl) ?_
      refine JC.asE 3 mixed ?_
      refine Any.p 0 rfl (by kernel_rfl) (by kernel_rfl) (by kernel_rfl) rfl Ev.move ?_
      refine Any.p 1 rfl (by kernel_rfl) (by kernel_rfl) (by kernel_rfl) rfl (Ev.faB fd.api_Resting_2) ?_
      refine Any.p 2 rfl (by kernel_rfl) (by kernel_rfl) (by kernel_rfl) rfl (Ev.ldB sc.int) ?_
      refine Any.p 3 rfl (by kernel_rfl) (by kernel_rfl) (by kernel_rfl) rfl (Ev.convU64W it.int it.uint64) ?_
      refine Any.p 5 rfl (by kernel_rfl) (by kernel_rfl) (by kernel_rfl) rfl (Ev.faB fd.api_Resting_3) ?_
      refine Any.p 6 rfl (by kernel_rfl) (by kernel_rfl) (by kernel_rfl) rfl (Ev.ldB sc.int) ?_
      refine Any.p 7 rfl (by kernel_rfl) (by kernel_rfl) (by kernel_rfl) rfl (Ev.convU64W it.int it.uint64) ?_
      refine Any.one 4 rfl (by kernel_rfl) ?_
      refine Seq.callAt (hs := fun w hw ho => snapPut (k := 1) (by decide) (by first | omega | (simp only [List.length_append, leB_length, magicL_length]; omega)) ho) (hH := (At.s (At.s (At.s At.z)))) (k := ?_)
      rintro v64 _ ⟨⟨A64, c64, rfl⟩, rfl⟩
      refine Seq.nil ⟨(by repeat (first | exact Part.refl _ | exact Part.nil _ | apply Part.here | apply Part.skip)), ?_⟩
      refine Any.one 8 rfl (by kernel_rfl) ?_
      refine Seq.callAt (hs := fun w hw ho => snapPut (k := 4) (by decide) (by first | omega | (simp only [List.length_append, leB_length, magicL_length]; omega)) ho) (hH := (At.s (At.s (At.s At.z)))) (k := ?_)
      rintro v68 _ ⟨⟨A68, c68, rfl⟩, rfl⟩
      refine Seq.nil ⟨(by repeat (first | exact Part.refl _ | exact Part.nil _ | apply Part.here | apply Part.skip)), ?_⟩
      refine Any.p 9 rfl (by kernel_rfl) (by kernel_rfl) (by kernel_rfl) rfl Ev.assign ?_
      refine Any.done (by kernel_rfl) ?_
      refine JC.anyE 3 mixed ?_
      refine Any.p 0 rfl (by kernel_rfl) (by kernel_rfl) (by kernel_rfl) rfl Ev.move ?_
      refine Any.p 1 rfl (by kernel_rfl) (by kernel_rfl) (by kernel_rfl) rfl (Ev.faB fd.api_Resting_4) ?_
      refine Any.p 2 rfl (by kernel_rfl) (by kernel_rfl) (by kernel_rfl) rfl (Ev.ldB sc.uint64) ?_
      refine Any.p 4 rfl (by kernel_rfl) (by kernel_rfl) (by kernel_rfl) rfl (Ev.faB fd.api_Resting_5) ?_
      refine Any.p 5 rfl (by kernel_rfl) (by kernel_rfl) (by kernel_rfl) rfl (Ev.ldB sc.uint64) ?_
      refine Any.p 7 rfl (by kernel_rfl) (by kernel_rfl) (by kernel_rfl) rfl (Ev.faB fd.api_Resting_6) ?_
      refine Any.p 8 rfl (by kernel_rfl) (by kernel_rfl) (by kernel_rfl) rfl (Ev.ldB sc.uint64) ?_
      refine Any.one 3 rfl (by kernel_rfl) ?_
      refine Seq.callAt (hs := fun w hw ho => snapPut (k := 4) (by decide) (by first | omega | (simp only [List.length_append, leB_length, magicL_length]; omega)) ho) (hH := (At.s (At.s (At.s At.z)))) (k := ?_)
      rintro v72 _ ⟨⟨A72, c72, rfl⟩, rfl⟩
      refine Seq.nil ⟨(by repeat (first | exact Part.refl _ | exact Part.nil _ | apply Part.here | apply Part.skip)), ?_⟩
      refine Any.one 6 rfl (by kernel_rfl) ?_
      refine Seq.callAt (hs := fun w hw ho => snapPut (k := 4) (by decide) (by first | omega | (simp only [List.length_append, leB_length, magicL_length]; omega)) ho) (hH := (At.s (At.s (At.s At.z)))) (k := ?_)
      rintro v75 _ ⟨⟨A75, c75, rfl⟩, rfl⟩
      refine Seq.nil ⟨(by repeat (first | exact Part.refl _ | exact Part.nil _ | apply Part.here | apply Part.skip)), ?_⟩
      refine Any.one 9 rfl (by kernel_rfl) ?_
      refine Seq.callAt (hs := fun w hw ho => snapPut (k := 4) (by decide) (by first | omega | (simp only [List.length_append, leB_length, magicL_length]; omega)) ho) (hH := (At.s (At.s (At.s At.z)))) (k := ?_)
      rintro v78 _ ⟨⟨A78, c78, rfl⟩, rfl⟩
      refine Seq.nil ⟨(by repeat (first | exact Part.refl _ | exact Part.nil _ | apply Part.here | apply Part.skip)), ?_⟩
      refine Any.p 10 rfl (by kernel_rfl) (by kernel_rfl) (by kernel_rfl) rfl Ev.assign ?_
      refine Any.done (by kernel_rfl) ?_
      refine JC.reg ?_
      refine Seq.p rfl (by first | exact Ev.inc | exact Ev.add) ?_
      refine Seq.p rfl Ev.move ?_
      refine Seq.nil ?_
      have hY : headB b ++ (L.take (i + 1)).flatMap itemB = l ++ itemB L[i]! := by rw [hsn, ← List.append_assoc, hl]
      refine ⟨(i + 1, _), _, Part.skip (Part.refl _), ⟨Has.mk (by repeat (first | refine Off.upd ?_ rfl | exact Off.mix | refine Off.mix2 ?_ rfl | exact Off.refl)) (allLook_cons (by repeat (first | exact Look.here | apply Look.there (hne := rfl) | exact Look.const | apply Look.mix rfl | exact Look.arg0 | apply Look.args | exact Look.func)) (allLook_cons (by repeat (first | exact Look.here | apply Look.there (hne := rfl) | exact Look.const | apply Look.mix rfl | exact Look.arg0 | apply Look.args | exact Look.func)) allLook_nil)), ?_, by show i + 1 ≤ L.length; omega, A78, c78, ?_⟩, by show L.length - (i + 1) < L.length - i; omega⟩
      · show _ = [_, _, bytesC _ (headB b ++ (L.take (i + 1)).flatMap itemB), _]
        rw [hY, ← item_eq]
        rfl
      · show _ = Value.slice A78 (headB b ++ (L.take (i + 1)).flatMap itemB).length c78
        rw [hY, ← item_eq, List.length_append (bs := leB (L[i]!).peak 4), leB_length]
    · -- else_t49
      obtain rfl : i = L.length := by omega
      rw [List.take_length] at hvi
      have hbl : (headB b ++ L.flatMap itemB).length ≤ 200000 := by rw [List.length_append, items_length]; omega
      have hbd : headB b ++ L.flatMap itemB = bodyB b := by rw [bodyB, hL]
      rw [List.take_length, hbd]
      rw [hbd] at hvi hbl
      refine JC.exit ?_ -- 0
      refine JC.rs ?_
      refine Seq.p rfl Ev.move ?_
      refine Seq.p rfl Ev.move ?_
      refine Seq.callP rfl (fun w hw => wireSum (RAt.up (RAt.own (enc := byteEnc) (xs := bodyB b)) hw)) ?_
      refine Seq.p rfl (Ev.convU64W it.uint32 it.uint64) ?_
      refine Seq.callAt (hs := fun w hw ho => snapPut (k := 4) (by decide) (by first | omega | (simp only [List.length_append, leB_length, magicL_length]; omega)) ho) (hH := (At.s (At.s At.z))) (k := ?_)
      rintro v84 _ ⟨⟨A84, c84, rfl⟩, rfl⟩
      refine Seq.p rfl Ev.assign ?_
      refine Seq.p rfl Ev.assign ?_
      refine Seq.nil ?_
      refine JC.ret ?_
      -- return 1
      show retQ _ _ _ _ _ _ _ _
      refine ret2 (H' := [bytesC _ (encB b)]) (hp := Part.skip (Part.skip (Part.here (Part.nil _)))) (hpost := ?_)
      have ho : outB b = encB b := if_pos he0
      have hel : (encB b).length = (bodyB b).length + 4 := by rw [encB, List.length_append, leB_length]
      rw [EncPost, ho, he0, hel]
      exact ⟨A84, c84, rfl, rfl⟩
set_option maxHeartbeats 4000000 in
set_option maxRecDepth 100000 in
theorem refEncode {w : World} {b : Book} {vb vs : Value} (hb : RSl Resting.enc 7 w [] vb b.buys) (hs : RSl Resting.enc 7 w [] vs b.sells) (wf : b.Wf) :
    Spec Go.Proofs.Try.prog 16 #[.agg (bookV b vb vs).toArray] w [] (EncPost b) := by
  have hb1 := hb.small
  have hs1 := hs.small
  obtain ⟨Ab, cb, rfl, _, _⟩ := hb.shape
  obtain ⟨As, cs, rfl, _, _⟩ := hs.shape
  generalize hvb : Value.slice Ab b.buys.length cb = vb at hb
  generalize hvs : Value.slice As b.sells.length cs = vs at hs
  subst hvb hvs
  refine Spec.enter (fn := Go.Proofs.Try.f16) (n := 101) [.agg (bookV b (.slice Ab b.buys.length cb) (.slice As b.sells.length cs)).toArray] Go.Proofs.Try.func16 (by kernel_rfl) rfl Go.Proofs.Try.ntmps16 Go.Proofs.Try.results16 rfl (Own.nil _) ?_
  refine JC.rs ?_
  refine Seq.box (cs := [_, _, _, _, _, _]) (k := ?_); intro b1
  refine Seq.p rfl Ev.assign ?_
  refine Seq.p rfl Ev.assign ?_
  refine Seq.nil ?_
  refine JC.rs ?_
  refine Seq.p rfl (Ev.ldBA ag.api_Book) ?_
  refine Seq.callP rfl (fun w hw => refValid (hb.up hw) (hs.up hw) wf) ?_
  refine Seq.p rfl Ev.assign ?_
  refine Seq.nil ?_
  refine JC.seq ?_
  refine JC.rs ?_
  refine Seq.p rfl Ev.move ?_
  refine Seq.p rfl Ev.ne ?_
  refine Seq.nil ?_
  first | refine JC.c (ht := fun c12 => ?_) (hf := fun c12 => ?_) | refine JC.cb (ht := fun c12 => ?_) (hf := fun c12 => ?_)
  · -- then_t12
    have ho : outB b = [] := if_neg c12
    refine JC.re (fun w h => Upd.nilOwn h 5 1) ?_
    refine JC.rs ?_
    refine Seq.p rfl Ev.move ?_
    refine Seq.p rfl Ev.assign ?_
    refine Seq.p rfl Ev.assign ?_
    refine Seq.nil ?_
    refine JC.ret ?_
    -- return 0
    show retQ _ _ _ _ _ _ _ _
    refine ret2 (H' := [bytesC (.slice none 0 0) []]) (hp := Part.here (Part.nil _)) (hpost := ?_)
    rw [EncPost, ho]
    exact ⟨_, _, rfl, rfl⟩
  · -- else_t12
    have he0 : validE b = 0 := by omega
    have hok := validE_ok he0
    have hcf := cfgB_iff.1 hok.1
    have hln := hok.2.1
    refine JC.skip ?_
    refine JC.rs ?_
    refine Seq.buildSlS [_, _, _, _, _, _, _, _] (hsl := sl.sl_uint8) (hz := z.uint8) (k := ?_); intro b14
    refine Seq.markLit (hd := sl.sl_uint8) (he := it.uint8) (k := ?_)
    rw [magicC]
    refine Seq.p rfl Ev.assign ?_
    refine Seq.nil ?_
    refine JC.rs ?_
    refine Seq.p rfl Ev.move ?_
    refine Seq.p rfl (Ev.faB fd.api_Book_0) ?_
    refine Seq.p rfl (Ev.faB fd.api_Config_0) ?_
    refine Seq.p rfl (Ev.ldB sc.int) ?_
    refine Seq.p rfl (Ev.convU64W it.int it.uint64) ?_
    refine Seq.callAt (hs := fun w hw ho => refPut (k := 2) (by decide) (by first | omega | (simp only [List.length_append, leB_length, magicL_length]; omega)) ho) (hH := At.z) (k := ?_)
    rintro v21 _ ⟨⟨A21, c21, rfl⟩, rfl⟩
    refine Seq.p rfl Ev.assign ?_
    refine Seq.nil ?_
    refine JC.rs ?_
    refine Seq.p rfl Ev.move ?_
    refine Seq.p rfl (Ev.faB fd.api_Book_0) ?_
    refine Seq.p rfl (Ev.faB fd.api_Config_1) ?_
    refine Seq.p rfl (Ev.ldB sc.int) ?_
    refine Seq.p rfl (Ev.convU64W it.int it.uint64) ?_
    refine Seq.callAt (hs := fun w hw ho => refPut (k := 1) (by decide) (by first | omega | (simp only [List.length_append, leB_length, magicL_length]; omega)) ho) (hH := At.z) (k := ?_)
    rintro v27 _ ⟨⟨A27, c27, rfl⟩, rfl⟩
    refine Seq.p rfl Ev.assign ?_
    refine Seq.nil ?_
    refine JC.rs ?_
    refine Seq.p rfl Ev.move ?_
    refine Seq.p rfl (Ev.faB fd.api_Book_3) ?_
    refine Seq.p rfl (Ev.ldB sc.uint64) ?_
    refine Seq.callAt (hs := fun w hw ho => refPut (k := 8) (by decide) (by first | omega | (simp only [List.length_append, leB_length, magicL_length]; omega)) ho) (hH := At.z) (k := ?_)
    rintro v31 _ ⟨⟨A31, c31, rfl⟩, rfl⟩
    refine Seq.p rfl Ev.assign ?_
    refine Seq.nil ?_
    refine JC.rs ?_
    refine Seq.p rfl Ev.move ?_
    refine Seq.p rfl (Ev.faB fd.api_Book_4) ?_
    refine Seq.p rfl (Ev.ldB sc.uint64) ?_
    refine Seq.callAt (hs := fun w hw ho => refPut (k := 8) (by decide) (by first | omega | (simp only [List.length_append, leB_length, magicL_length]; omega)) ho) (hH := At.z) (k := ?_)
    rintro v35 _ ⟨⟨A35, c35, rfl⟩, rfl⟩
    refine Seq.p rfl Ev.assign ?_
    refine Seq.nil ?_
    refine JC.rs ?_
    refine Seq.p rfl Ev.move ?_
    refine Seq.p rfl (Ev.faB fd.api_Book_1) ?_
    refine Seq.p rfl (Ev.ldB sc.sl_api_Resting) ?_
    refine Seq.p rfl (Ev.lenSl sl.sl_api_Resting (hr := hb.r)) ?_
    refine Seq.p rfl (Ev.convU64W it.int it.uint64) ?_
    refine Seq.callAt (hs := fun w hw ho => refPut (k := 2) (by decide) (by first | omega | (simp only [List.length_append, leB_length, magicL_length]; omega)) ho) (hH := At.z) (k := ?_)
    rintro v41 _ ⟨⟨A41, c41, rfl⟩, rfl⟩
    refine Seq.p rfl Ev.assign ?_
    refine Seq.nil ?_
    refine JC.rs ?_
    refine Seq.p rfl Ev.move ?_
    refine Seq.p rfl (Ev.faB fd.api_Book_2) ?_
    refine Seq.p rfl (Ev.ldB sc.sl_api_Resting) ?_
    refine Seq.p rfl (Ev.lenSl sl.sl_api_Resting (hr := hs.r)) ?_
    refine Seq.p rfl (Ev.convU64W it.int it.uint64) ?_
    refine Seq.callAt (hs := fun w hw ho => refPut (k := 2) (by decide) (by first | omega | (simp only [List.length_append, leB_length, magicL_length]; omega)) ho) (hH := At.z) (k := ?_)
    rintro v47 _ ⟨⟨A47, c47, rfl⟩, rfl⟩
    refine Seq.p rfl Ev.assign ?_
    refine Seq.nil ?_
    refine JC.as mixed ?_
    refine Any.p 1 rfl (by kernel_rfl) (by kernel_rfl) (by kernel_rfl) rfl (Ev.faB fd.api_Book_1) ?_
    refine Any.p 2 rfl (by kernel_rfl) (by kernel_rfl) (by kernel_rfl) rfl (Ev.ldB sc.sl_api_Resting) ?_
    refine Any.p 4 rfl (by kernel_rfl) (by kernel_rfl) (by kernel_rfl) rfl (Ev.faB fd.api_Book_2) ?_
    refine Any.p 5 rfl (by kernel_rfl) (by kernel_rfl) (by kernel_rfl) rfl (Ev.ldB sc.sl_api_Resting) ?_
    refine Any.one 0 rfl (by kernel_rfl) ?_
    rw [headB_eq]
    refine Seq.buildSlN [] (hsl := sl.sl_api_Resting) (hz := z.api_Resting) (k := ?_); intro b48
    refine Seq.re (fun w h => Upd.boxOwn h (n := 0) (size := 7) At.z rfl (by omega)) ?_
    refine Seq.nil ⟨(by repeat (first | exact Part.refl _ | exact Part.nil _ | apply Part.here | apply Part.skip)), ?_⟩
    refine Any.one 3 rfl (by kernel_rfl) ?_
    refine Seq.append (hsl := sl.sl_api_Resting) (he := el.api_Resting) (hsrc := fun w' hw => Src.rsl sl.sl_api_Resting (hb.up hw) (by omega) restOne) (k := ?_); intro A51 c51
    rw [Nat.zero_add, List.nil_append]
    refine Seq.nil ⟨(by repeat (first | exact Part.refl _ | exact Part.nil _ | apply Part.here | apply Part.skip)), ?_⟩
    refine Any.one 6 rfl (by kernel_rfl) ?_
    refine Seq.append (hsl := sl.sl_api_Resting) (he := el.api_Resting) (hsrc := fun w' hw => Src.rsl sl.sl_api_Resting (hs.up hw) (by omega) restOne) (k := ?_); intro A54 c54
    rw [← List.flatMap_append, ← List.length_append]
    have hal : (b.buys ++ b.sells).length = b.buys.length + b.sells.length := List.length_append
    generalize hL : b.buys ++ b.sells = L at hal
    refine Seq.nil ⟨(by repeat (first | exact Part.refl _ | exact Part.nil _ | apply Part.here | apply Part.skip)), ?_⟩
    refine Any.p 7 rfl (by kernel_rfl) (by kernel_rfl) (by kernel_rfl) rfl Ev.assign ?_
    refine Any.done (by kernel_rfl) ?_
    refine JC.seq ?_
    refine JC.rs ?_
    refine Seq.p rfl Ev.assign ?_
    refine Seq.nil ?_
    refine JC.blk ?_
    have hhl := headB_length b
    refine JC.loop (α := Nat × Value) (I := fun s e1 H1 => Has [5, 7, 8, 55, 56, 57, 58, 59, 60, 61, 62, 63, 64, 65, 66, 67, 68, 69, 70, 71, 72, 73, 74, 75, 76, 77, 78, 79, 80, 81, 82, 83, 84, 85, 86, 87, 88, 89, 90, 91, 92, 93, 94, 95] [(5, s.2), (7, .int .i64 (s.1 : Int))] _ e1 ∧ H1 = [restC (.slice A54 L.length c54) L, bytesC s.2 (headB b ++ (L.take s.1).flatMap itemB), .box b1 27 (bookV b (.slice Ab b.buys.length cb) (.slice As b.sells.length cs))] ∧ s.1 ≤ L.length ∧ ∃ A c, s.2 = .slice A (headB b ++ (L.take s.1).flatMap itemB).length c) (μ := fun s => L.length - s.1) (0, .slice A47 _ c47) ⟨Has.mk Off.refl (allLook_cons (by repeat (first | exact Look.here | apply Look.there (hne := rfl) | exact Look.const | apply Look.mix rfl | exact Look.arg0 | apply Look.args | exact Look.func)) (allLook_cons (by repeat (first | exact Look.here | apply Look.there (hne := rfl) | exact Look.const | apply Look.mix rfl | exact Look.arg0 | apply Look.args | exact Look.func)) allLook_nil)), by simp only [List.take_zero, List.flatMap_nil, List.append_nil]; rfl, by omega, A47, c47, by simp only [List.take_zero, List.flatMap_nil, List.append_nil, ← headB_eq, List.length_append, leB_length]⟩ ?_
    rintro ⟨i, vi⟩ _ _ ⟨⟨u, rfl⟩, rfl, hi, hvi⟩; dsimp only [setL]; dsimp only at hi hvi
    refine JC.seq ?_
    refine JC.rs ?_
    refine Seq.p rfl Ev.move ?_
    refine Seq.p rfl Ev.move ?_
    refine Seq.p rfl (Ev.lenSl sl.sl_api_Resting (hr := RAt.own (enc := Resting.enc) (xs := L))) ?_
    refine Seq.p rfl Ev.lt ?_
    refine Seq.nil ?_
    first | refine JC.c (ht := fun c58 => ?_) (hf := fun c58 => ?_) | refine JC.cb (ht := fun c58 => ?_) (hf := fun c58 => ?_)
    · -- then_t58
      have hi2 : i < L.length := by omega
      have hli : (headB b ++ (L.take i).flatMap itemB).length ≤ 200000 := by rw [List.length_append, items_length, List.length_take]; omega
      have hsn := items_snoc hi2
      generalize hl : headB b ++ (L.take i).flatMap itemB = l at hli
      refine JC.skip ?_
      refine JC.seq ?_
      refine JC.blk ?_
      refine JC.rs ?_
      refine Seq.p rfl Ev.move ?_
      refine Seq.p rfl Ev.move ?_
      refine Seq.p rfl (Ev.iaN sl.sl_api_Resting (hr := RAt.own (enc := Resting.enc) (xs := L))) ?_
      refine Seq.p rfl (Ev.ldEA ag.api_Resting (hr := RAt.own (enc := Resting.enc) (xs := L))) ?_
      refine Seq.alloc (cs := [_, _, _, _, _, _, _]) (hz := z.api_Resting) (k := ?_); intro b8
      refine Seq.storeN [_, _, _, _, _, _, _] sz.api_Resting (k := ?_)
      refine Seq.nil ?_
      refine JC.rs ?_
      refine Seq.p rfl Ev.move ?_
      refine Seq.p rfl (Ev.faB fd.api_Resting_0) ?_
      refine Seq.p rfl (Ev.ldB sc.uint64) ?_
      refine Seq.callAt (hs := fun w hw ho => refPut (k := 8) (by decide) (by first | omega | (simp only [List.length_append, leB_length, magicL_length]; omega)) ho) (hH := (At.s (At.s At.z))) (k := ?_)
      rintro v68 _ ⟨⟨A68, c68, rfl⟩, rfl⟩
      refine Seq.p rfl Ev.assign ?_
      refine Seq.nil ?_
      refine JC.rs ?_
      refine Seq.p rfl Ev.move ?_
      refine Seq.p rfl (Ev.faB fd.api_Resting_1) ?_
      refine Seq.p rfl (Ev.ldB sc.uint32) ?_
      refine Seq.p rfl (Ev.convU64W it.uint32 it.uint64) ?_
      refine Seq.callAt (hs := fun w hw ho => refPut (k := 4) (by decide) (by first | omega | (simp only [List.length_append, leB_length, magicL_length]; omega)) ho) (hH := (At.s (At.s At.z))) (k := ?_)
      rintro v73 _ ⟨⟨A73, c73, rfl⟩, rfl⟩
      refine Seq.p rfl Ev.assign ?_
      refine Seq.nil ?_
      refine JC.rs ?_
      refine Seq.p rfl Ev.move ?_
      refine Seq.p rfl (Ev.faB fd.api_Resting_2) ?_
      refine Seq.p rfl (Ev.ldB sc.int) ?_
      refine Seq.p rfl (Ev.convU64W it.int it.uint64) ?_
      refine Seq.callAt (hs := fun w hw ho => refPut (k := 1) (by decide) (by first | omega | (simp only [List.length_append, leB_length, magicL_length]; omega)) ho) (hH := (At.s (At.s At.z))) (k := ?_)
      rintro v78 _ ⟨⟨A78, c78, rfl⟩, rfl⟩
      refine Seq.p rfl Ev.assign ?_
      refine Seq.nil ?_
      refine JC.rs ?_
      refine Seq.p rfl Ev.move ?_
      refine Seq.p rfl (Ev.faB fd.api_Resting_3) ?_
      refine Seq.p rfl (Ev.ldB sc.int) ?_
      refine Seq.p rfl (Ev.convU64W it.int it.uint64) ?_
      refine Seq.callAt (hs := fun w hw ho => refPut (k := 4) (by decide) (by first | omega | (simp only [List.length_append, leB_length, magicL_length]; omega)) ho) (hH := (At.s (At.s At.z))) (k := ?_)
      rintro v83 _ ⟨⟨A83, c83, rfl⟩, rfl⟩
      refine Seq.p rfl Ev.assign ?_
      refine Seq.nil ?_
      refine JC.rs ?_
      refine Seq.p rfl Ev.move ?_
      refine Seq.p rfl (Ev.faB fd.api_Resting_4) ?_
      refine Seq.p rfl (Ev.ldB sc.uint64) ?_
      refine Seq.callAt (hs := fun w hw ho => refPut (k := 4) (by decide) (by first | omega | (simp only [List.length_append, leB_length, magicL_length]; omega)) ho) (hH := (At.s (At.s At.z))) (k := ?_)
      rintro v87 _ ⟨⟨A87, c87, rfl⟩, rfl⟩
      refine Seq.p rfl Ev.assign ?_
      refine Seq.nil ?_
      refine JC.rs ?_
      refine Seq.p rfl Ev.move ?_
      refine Seq.p rfl (Ev.faB fd.api_Resting_5) ?_
      refine Seq.p rfl (Ev.ldB sc.uint64) ?_
      refine Seq.callAt (hs := fun w hw ho => refPut (k := 4) (by decide) (by first | omega | (simp only [List.length_append, leB_length, magicL_length]; omega)) ho) (hH := (At.s (At.s At.z))) (k := ?_)
      rintro v91 _ ⟨⟨A91, c91, rfl⟩, rfl⟩
      refine Seq.p rfl Ev.assign ?_
      refine Seq.nil ?_
      refine JC.reg ?_
      refine Seq.p rfl Ev.move ?_
      refine Seq.p rfl (Ev.faB fd.api_Resting_6) ?_
      refine Seq.p rfl (Ev.ldB sc.uint64) ?_
      refine Seq.callAt (hs := fun w hw ho => refPut (k := 4) (by decide) (by first | omega | (simp only [List.length_append, leB_length, magicL_length]; omega)) ho) (hH := (At.s (At.s At.z))) (k := ?_)
      rintro v95 _ ⟨⟨A95, c95, rfl⟩, rfl⟩
      refine Seq.p rfl Ev.assign ?_
      refine Seq.nil ?_
      refine JC.reg ?_
      refine Seq.p rfl Ev.move ?_
      refine Seq.p rfl (by first | exact Ev.inc | exact Ev.add) ?_
      refine Seq.p rfl Ev.assign ?_
      refine Seq.nil ?_
      have hY : headB b ++ (L.take (i + 1)).flatMap itemB = l ++ itemB L[i]! := by rw [hsn, ← List.append_assoc, hl]
      refine ⟨(i + 1, _), _, Part.skip (Part.refl _), ⟨Has.mk (by repeat (first | refine Off.upd ?_ rfl | exact Off.mix | refine Off.mix2 ?_ rfl | exact Off.refl)) (allLook_cons (by repeat (first | exact Look.here | apply Look.there (hne := rfl) | exact Look.const | apply Look.mix rfl | exact Look.arg0 | apply Look.args | exact Look.func)) (allLook_cons (by repeat (first | exact Look.here | apply Look.there (hne := rfl) | exact Look.const | apply Look.mix rfl | exact Look.arg0 | apply Look.args | exact Look.func)) allLook_nil)), ?_, by show i + 1 ≤ L.length; omega, A95, c95, ?_⟩, by show L.length - (i + 1) < L.length - i; omega⟩
      · show _ = [_, bytesC _ (headB b ++ (L.take (i + 1)).flatMap itemB), _]
        rw [hY, ← item_eq]
        rfl
      · show _ = Value.slice A95 (headB b ++ (L.take (i + 1)).flatMap itemB).length c95
        rw [hY, ← item_eq, List.length_append (bs := leB (L[i]!).peak 4), leB_length]
    · -- else_t58
      obtain rfl : i = L.length := by omega
      rw [List.take_length] at hvi
      have hbl : (headB b ++ L.flatMap itemB).length ≤ 200000 := by rw [List.length_append, items_length]; omega
      have hbd : headB b ++ L.flatMap itemB = bodyB b := by rw [bodyB, hL]
      rw [List.take_length, hbd]
      rw [hbd] at hvi hbl
      refine JC.exit ?_ -- 0
      refine JC.rs ?_
      refine Seq.p rfl Ev.move ?_
      refine Seq.p rfl Ev.move ?_
      refine Seq.callP rfl (fun w hw => refSum (RAt.up (RAt.own (enc := byteEnc) (xs := bodyB b)) hw)) ?_
      refine Seq.p rfl (Ev.convU64W it.uint32 it.uint64) ?_
      refine Seq.callAt (hs := fun w hw ho => refPut (k := 4) (by decide) (by first | omega | (simp only [List.length_append, leB_length, magicL_length]; omega)) ho) (hH := (At.s At.z)) (k := ?_)
      rintro v100 _ ⟨⟨A100, c100, rfl⟩, rfl⟩
      refine Seq.p rfl Ev.assign ?_
      refine Seq.p rfl Ev.assign ?_
      refine Seq.nil ?_
      refine JC.ret ?_
      -- return 1
      show retQ _ _ _ _ _ _ _ _
      refine ret2 (H' := [bytesC _ (encB b)]) (hp := Part.skip (Part.here (Part.nil _))) (hpost := ?_)
      have ho : outB b = encB b := if_pos he0
      have hel : (encB b).length = (bodyB b).length + 4 := by rw [encB, List.length_append, leB_length]
      rw [EncPost, ho, he0, hel]
      exact ⟨A100, c100, rfl, rfl⟩
end Go.Rx
